/- Each told function is what the machine comes to. No statement is proved here. -/
import Derived.Test.YtbpgfmandlhnaaaGreatM3
import Derived.Test.YtbpgfmandlhnaaaGreatA1
import Derived.Test.YtbpgfmandlhnaaaGreatProg
import Derived.KernelRfl

section
set_option linter.unusedVariables false
namespace Go.Vsi
open Go.Proofs
def tis : List (Nat × TI) := [
(1, ⟨false, 1, 8, [.undef], none, none, []⟩),
(2, ⟨false, 1, 8, [.int .i64 0], some (.int .i64), none, []⟩),
(3, ⟨false, 1, 8, [.int .i64 0], some (.int .i64), none, []⟩),
(4, ⟨false, 1, 1, [.bool false], some (.bool), none, []⟩),
(5, ⟨false, 1, 1, [.int .u8 0], some (.int .u8), none, []⟩),
(6, ⟨false, 1, 1, [.int .u8 0], some (.int .u8), none, []⟩),
(7, ⟨true, 4, 24, [.int .i64 0, .int .i64 0, .bool false, .int .u8 0], some (.prod (.int .i64) (.prod (.int .i64) (.prod .bool (.int .u8)))), none, [(0, 2), (1, 3), (2, 4), (3, 6)]⟩),
(8, ⟨true, 4, 24, [.int .i64 0, .int .i64 0, .bool false, .int .u8 0], some (.prod (.int .i64) (.prod (.int .i64) (.prod .bool (.int .u8)))), none, [(0, 2), (1, 3), (2, 4), (3, 6)]⟩),
(9, ⟨false, 1, 16, [.str []], some (.str), none, []⟩),
(10, ⟨false, 1, 16, [.str []], some (.str), none, []⟩),
(11, ⟨false, 1, 16, [.str []], some (.str), none, []⟩),
(12, ⟨false, 1, 8, [.int .u64 0], some (.int .u64), none, []⟩),
(13, ⟨true, 2, 24, [.str [], .int .u64 0], some (.prod .str (.int .u64)), none, [(0, 9), (1, 12)]⟩),
(14, ⟨true, 2, 24, [.str [], .int .u64 0], some (.prod .str (.int .u64)), none, [(0, 9), (1, 12)]⟩),
(15, ⟨false, 1, 8, [.undef], none, none, []⟩),
(16, ⟨false, 1, 8, [.undef], none, none, []⟩),
(17, ⟨false, 1, 8, [.undef], none, none, []⟩),
(18, ⟨true, 1, 8, [.undef], none, none, [(0, 17)]⟩),
(19, ⟨true, 1, 8, [.undef], none, none, [(0, 17)]⟩),
(20, ⟨false, 1, 16, [.undef], none, none, []⟩),
(21, ⟨false, 1, 4, [.int .i32 0], some (.int .i32), none, []⟩),
(22, ⟨false, 1, 24, [.emp 53 (.prod .str (.int .i64))], some (.sl 53 (.prod .str (.int .i64))), some 53, []⟩),
(23, ⟨false, 1, 24, [.emp 59 (.prod (.int .i64) (.prod .bool (.prod (.sl 132 (.prod (.int .i64) (.prod (.int .i64) (.prod (.int .i64) (.prod (.int .i64) (.prod (.int .i64) (.prod (.sl 115 (.int .u64)) (.sl 2 (.int .i64))))))))) (.sl 132 (.prod (.int .i64) (.prod (.int .i64) (.prod (.int .i64) (.prod (.int .i64) (.prod (.int .i64) (.prod (.sl 115 (.int .u64)) (.sl 2 (.int .i64))))))))))))], some (.sl 59 (.prod (.int .i64) (.prod .bool (.prod (.sl 132 (.prod (.int .i64) (.prod (.int .i64) (.prod (.int .i64) (.prod (.int .i64) (.prod (.int .i64) (.prod (.sl 115 (.int .u64)) (.sl 2 (.int .i64))))))))) (.sl 132 (.prod (.int .i64) (.prod (.int .i64) (.prod (.int .i64) (.prod (.int .i64) (.prod (.int .i64) (.prod (.sl 115 (.int .u64)) (.sl 2 (.int .i64))))))))))))), some 59, []⟩),
(24, ⟨false, 1, 8, [.undef], none, none, []⟩),
(25, ⟨false, 1, 8, [.undef], none, none, []⟩),
(26, ⟨false, 1, 8, [.undef], none, none, []⟩),
(27, ⟨false, 1, 24, [.emp 63 (.prod .str (.int .i64))], some (.sl 63 (.prod .str (.int .i64))), some 63, []⟩),
(28, ⟨false, 1, 8, [.undef], none, none, []⟩),
(29, ⟨false, 1, 24, [.emp 69 (.prod (.int .i64) (.prod .bool (.prod (.sl 114 (.prod (.int .i64) (.prod (.int .i64) (.prod (.int .i64) (.prod (.int .i64) (.prod (.int .i64) (.prod (.sl 115 (.int .u64)) (.sl 2 (.int .i64))))))))) (.sl 114 (.prod (.int .i64) (.prod (.int .i64) (.prod (.int .i64) (.prod (.int .i64) (.prod (.int .i64) (.prod (.sl 115 (.int .u64)) (.sl 2 (.int .i64))))))))))))], some (.sl 69 (.prod (.int .i64) (.prod .bool (.prod (.sl 114 (.prod (.int .i64) (.prod (.int .i64) (.prod (.int .i64) (.prod (.int .i64) (.prod (.int .i64) (.prod (.sl 115 (.int .u64)) (.sl 2 (.int .i64))))))))) (.sl 114 (.prod (.int .i64) (.prod (.int .i64) (.prod (.int .i64) (.prod (.int .i64) (.prod (.int .i64) (.prod (.sl 115 (.int .u64)) (.sl 2 (.int .i64))))))))))))), some 69, []⟩),
(30, ⟨false, 1, 8, [.undef], none, none, []⟩),
(31, ⟨false, 1, 8, [.undef], none, none, []⟩),
(32, ⟨false, 1, 8, [.undef], none, none, []⟩),
(33, ⟨false, 1, 8, [.undef], none, none, []⟩),
(34, ⟨false, 1, 24, [.emp 79 (.prod (.int .i64) (.sl 115 (.int .u64)))], some (.sl 79 (.prod (.int .i64) (.sl 115 (.int .u64)))), some 79, []⟩),
(35, ⟨false, 1, 8, [.undef], none, none, []⟩),
(36, ⟨false, 1, 24, [.emp 2 (.int .i64)], some (.sl 2 (.int .i64)), some 2, []⟩),
(38, ⟨false, 1, 8, [.undef], none, none, []⟩),
(39, ⟨false, 1, 24, [.emp 83 (.prod (.int .i64) (.sl 115 (.int .u64)))], some (.sl 83 (.prod (.int .i64) (.sl 115 (.int .u64)))), some 83, []⟩),
(40, ⟨false, 1, 8, [.undef], none, none, []⟩),
(41, ⟨false, 1, 8, [.undef], none, none, []⟩),
(42, ⟨false, 1, 8, [.undef], none, none, []⟩),
(43, ⟨false, 1, 8, [.undef], none, none, []⟩),
(44, ⟨false, 1, 8, [.undef], none, none, []⟩),
(45, ⟨false, 1, 8, [.undef], none, none, []⟩),
(46, ⟨false, 1, 8, [.undef], none, none, []⟩),
(47, ⟨false, 1, 8, [.undef], none, none, []⟩),
(49, ⟨false, 1, 8, [.undef], none, none, []⟩),
(50, ⟨false, 1, 8, [.undef], none, none, []⟩),
(51, ⟨false, 1, 8, [.undef], none, none, []⟩),
(52, ⟨true, 2, 24, [.str [], .int .i64 0], some (.prod .str (.int .i64)), none, [(0, 9), (1, 2)]⟩),
(53, ⟨true, 2, 24, [.str [], .int .i64 0], some (.prod .str (.int .i64)), none, [(0, 9), (1, 2)]⟩),
(54, ⟨false, 1, 8, [.undef], none, none, []⟩),
(55, ⟨false, 1, 24, [.emp 132 (.prod (.int .i64) (.prod (.int .i64) (.prod (.int .i64) (.prod (.int .i64) (.prod (.int .i64) (.prod (.sl 115 (.int .u64)) (.sl 2 (.int .i64))))))))], some (.sl 132 (.prod (.int .i64) (.prod (.int .i64) (.prod (.int .i64) (.prod (.int .i64) (.prod (.int .i64) (.prod (.sl 115 (.int .u64)) (.sl 2 (.int .i64))))))))), some 132, []⟩),
(56, ⟨true, 1, 24, [.emp 132 (.prod (.int .i64) (.prod (.int .i64) (.prod (.int .i64) (.prod (.int .i64) (.prod (.int .i64) (.prod (.sl 115 (.int .u64)) (.sl 2 (.int .i64))))))))], some (.sl 132 (.prod (.int .i64) (.prod (.int .i64) (.prod (.int .i64) (.prod (.int .i64) (.prod (.int .i64) (.prod (.sl 115 (.int .u64)) (.sl 2 (.int .i64))))))))), none, [(0, 55)]⟩),
(57, ⟨true, 1, 24, [.emp 132 (.prod (.int .i64) (.prod (.int .i64) (.prod (.int .i64) (.prod (.int .i64) (.prod (.int .i64) (.prod (.sl 115 (.int .u64)) (.sl 2 (.int .i64))))))))], some (.sl 132 (.prod (.int .i64) (.prod (.int .i64) (.prod (.int .i64) (.prod (.int .i64) (.prod (.int .i64) (.prod (.sl 115 (.int .u64)) (.sl 2 (.int .i64))))))))), none, [(0, 55)]⟩),
(58, ⟨true, 4, 64, [.int .i64 0, .bool false, .emp 132 (.prod (.int .i64) (.prod (.int .i64) (.prod (.int .i64) (.prod (.int .i64) (.prod (.int .i64) (.prod (.sl 115 (.int .u64)) (.sl 2 (.int .i64)))))))), .emp 132 (.prod (.int .i64) (.prod (.int .i64) (.prod (.int .i64) (.prod (.int .i64) (.prod (.int .i64) (.prod (.sl 115 (.int .u64)) (.sl 2 (.int .i64))))))))], some (.prod (.int .i64) (.prod .bool (.prod (.sl 132 (.prod (.int .i64) (.prod (.int .i64) (.prod (.int .i64) (.prod (.int .i64) (.prod (.int .i64) (.prod (.sl 115 (.int .u64)) (.sl 2 (.int .i64))))))))) (.sl 132 (.prod (.int .i64) (.prod (.int .i64) (.prod (.int .i64) (.prod (.int .i64) (.prod (.int .i64) (.prod (.sl 115 (.int .u64)) (.sl 2 (.int .i64)))))))))))), none, [(0, 2), (1, 4), (2, 57), (3, 57)]⟩),
(59, ⟨true, 4, 64, [.int .i64 0, .bool false, .emp 132 (.prod (.int .i64) (.prod (.int .i64) (.prod (.int .i64) (.prod (.int .i64) (.prod (.int .i64) (.prod (.sl 115 (.int .u64)) (.sl 2 (.int .i64)))))))), .emp 132 (.prod (.int .i64) (.prod (.int .i64) (.prod (.int .i64) (.prod (.int .i64) (.prod (.int .i64) (.prod (.sl 115 (.int .u64)) (.sl 2 (.int .i64))))))))], some (.prod (.int .i64) (.prod .bool (.prod (.sl 132 (.prod (.int .i64) (.prod (.int .i64) (.prod (.int .i64) (.prod (.int .i64) (.prod (.int .i64) (.prod (.sl 115 (.int .u64)) (.sl 2 (.int .i64))))))))) (.sl 132 (.prod (.int .i64) (.prod (.int .i64) (.prod (.int .i64) (.prod (.int .i64) (.prod (.int .i64) (.prod (.sl 115 (.int .u64)) (.sl 2 (.int .i64)))))))))))), none, [(0, 2), (1, 4), (2, 57), (3, 57)]⟩),
(60, ⟨false, 1, 8, [.int .u64 0], some (.int .u64), none, []⟩),
(61, ⟨false, 1, 8, [.undef], none, none, []⟩),
(62, ⟨false, 1, 8, [.undef], none, none, []⟩),
(63, ⟨true, 2, 24, [.str [], .int .i64 0], some (.prod .str (.int .i64)), none, [(0, 9), (1, 2)]⟩),
(64, ⟨false, 1, 8, [.undef], none, none, []⟩),
(65, ⟨false, 1, 24, [.emp 114 (.prod (.int .i64) (.prod (.int .i64) (.prod (.int .i64) (.prod (.int .i64) (.prod (.int .i64) (.prod (.sl 115 (.int .u64)) (.sl 2 (.int .i64))))))))], some (.sl 114 (.prod (.int .i64) (.prod (.int .i64) (.prod (.int .i64) (.prod (.int .i64) (.prod (.int .i64) (.prod (.sl 115 (.int .u64)) (.sl 2 (.int .i64))))))))), some 114, []⟩),
(66, ⟨true, 1, 24, [.emp 114 (.prod (.int .i64) (.prod (.int .i64) (.prod (.int .i64) (.prod (.int .i64) (.prod (.int .i64) (.prod (.sl 115 (.int .u64)) (.sl 2 (.int .i64))))))))], some (.sl 114 (.prod (.int .i64) (.prod (.int .i64) (.prod (.int .i64) (.prod (.int .i64) (.prod (.int .i64) (.prod (.sl 115 (.int .u64)) (.sl 2 (.int .i64))))))))), none, [(0, 65)]⟩),
(67, ⟨true, 1, 24, [.emp 114 (.prod (.int .i64) (.prod (.int .i64) (.prod (.int .i64) (.prod (.int .i64) (.prod (.int .i64) (.prod (.sl 115 (.int .u64)) (.sl 2 (.int .i64))))))))], some (.sl 114 (.prod (.int .i64) (.prod (.int .i64) (.prod (.int .i64) (.prod (.int .i64) (.prod (.int .i64) (.prod (.sl 115 (.int .u64)) (.sl 2 (.int .i64))))))))), none, [(0, 65)]⟩),
(68, ⟨true, 4, 64, [.int .i64 0, .bool false, .emp 114 (.prod (.int .i64) (.prod (.int .i64) (.prod (.int .i64) (.prod (.int .i64) (.prod (.int .i64) (.prod (.sl 115 (.int .u64)) (.sl 2 (.int .i64)))))))), .emp 114 (.prod (.int .i64) (.prod (.int .i64) (.prod (.int .i64) (.prod (.int .i64) (.prod (.int .i64) (.prod (.sl 115 (.int .u64)) (.sl 2 (.int .i64))))))))], some (.prod (.int .i64) (.prod .bool (.prod (.sl 114 (.prod (.int .i64) (.prod (.int .i64) (.prod (.int .i64) (.prod (.int .i64) (.prod (.int .i64) (.prod (.sl 115 (.int .u64)) (.sl 2 (.int .i64))))))))) (.sl 114 (.prod (.int .i64) (.prod (.int .i64) (.prod (.int .i64) (.prod (.int .i64) (.prod (.int .i64) (.prod (.sl 115 (.int .u64)) (.sl 2 (.int .i64)))))))))))), none, [(0, 2), (1, 4), (2, 67), (3, 67)]⟩),
(69, ⟨true, 4, 64, [.int .i64 0, .bool false, .emp 114 (.prod (.int .i64) (.prod (.int .i64) (.prod (.int .i64) (.prod (.int .i64) (.prod (.int .i64) (.prod (.sl 115 (.int .u64)) (.sl 2 (.int .i64)))))))), .emp 114 (.prod (.int .i64) (.prod (.int .i64) (.prod (.int .i64) (.prod (.int .i64) (.prod (.int .i64) (.prod (.sl 115 (.int .u64)) (.sl 2 (.int .i64))))))))], some (.prod (.int .i64) (.prod .bool (.prod (.sl 114 (.prod (.int .i64) (.prod (.int .i64) (.prod (.int .i64) (.prod (.int .i64) (.prod (.int .i64) (.prod (.sl 115 (.int .u64)) (.sl 2 (.int .i64))))))))) (.sl 114 (.prod (.int .i64) (.prod (.int .i64) (.prod (.int .i64) (.prod (.int .i64) (.prod (.int .i64) (.prod (.sl 115 (.int .u64)) (.sl 2 (.int .i64)))))))))))), none, [(0, 2), (1, 4), (2, 67), (3, 67)]⟩),
(70, ⟨false, 1, 8, [.undef], none, none, []⟩),
(71, ⟨false, 1, 8, [.undef], none, none, []⟩),
(72, ⟨false, 1, 8, [.undef], none, none, []⟩),
(73, ⟨false, 1, 8, [.undef], none, none, []⟩),
(74, ⟨false, 1, 8, [.undef], none, none, []⟩),
(75, ⟨false, 1, 8, [.undef], none, none, []⟩),
(76, ⟨false, 1, 8, [.undef], none, none, []⟩),
(77, ⟨false, 1, 24, [.emp 115 (.int .u64)], some (.sl 115 (.int .u64)), some 115, []⟩),
(78, ⟨true, 2, 32, [.int .i64 0, .emp 115 (.int .u64)], some (.prod (.int .i64) (.sl 115 (.int .u64))), none, [(0, 2), (1, 77)]⟩),
(79, ⟨true, 2, 32, [.int .i64 0, .emp 115 (.int .u64)], some (.prod (.int .i64) (.sl 115 (.int .u64))), none, [(0, 2), (1, 77)]⟩),
(80, ⟨false, 1, 8, [.undef], none, none, []⟩),
(82, ⟨false, 1, 8, [.undef], none, none, []⟩),
(83, ⟨true, 2, 32, [.int .i64 0, .emp 115 (.int .u64)], some (.prod (.int .i64) (.sl 115 (.int .u64))), none, [(0, 2), (1, 77)]⟩),
(84, ⟨false, 1, 8, [.undef], none, none, []⟩),
(85, ⟨false, 1, 8, [.undef], none, none, []⟩),
(86, ⟨false, 1, 8, [.undef], none, none, []⟩),
(87, ⟨false, 1, 8, [.undef], none, none, []⟩),
(88, ⟨false, 1, 8, [.undef], none, none, []⟩),
(89, ⟨false, 1, 8, [.undef], none, none, []⟩),
(90, ⟨false, 1, 8, [.undef], none, none, []⟩),
(91, ⟨false, 1, 8, [.undef], none, none, []⟩),
(92, ⟨false, 1, 8, [.undef], none, none, []⟩),
(93, ⟨false, 1, 8, [.undef], none, none, []⟩),
(94, ⟨false, 1, 8, [.undef], none, none, []⟩),
(96, ⟨false, 1, 8, [.undef], none, none, []⟩),
(97, ⟨false, 1, 8, [.undef], none, none, []⟩),
(99, ⟨false, 1, 8, [.undef], none, none, []⟩),
(100, ⟨false, 1, 8, [.undef], none, none, []⟩),
(101, ⟨false, 1, 8, [.undef], none, none, []⟩),
(102, ⟨false, 1, 8, [.undef], none, none, []⟩),
(103, ⟨false, 1, 8, [.undef], none, none, []⟩),
(104, ⟨false, 1, 8, [.undef], none, none, []⟩),
(105, ⟨false, 1, 8, [.undef], none, none, []⟩),
(106, ⟨false, 1, 8, [.undef], none, none, []⟩),
(107, ⟨false, 1, 8, [.undef], none, none, []⟩),
(108, ⟨false, 1, 8, [.undef], none, none, []⟩),
(109, ⟨false, 1, 8, [.undef], none, none, []⟩),
(110, ⟨false, 1, 8, [.undef], none, none, []⟩),
(111, ⟨false, 1, 8, [.undef], none, none, []⟩),
(112, ⟨false, 1, 24, [.emp 5 (.int .u8)], some (.sl 5 (.int .u8)), some 5, []⟩),
(113, ⟨true, 7, 88, [.int .i64 0, .int .i64 0, .int .i64 0, .int .i64 0, .int .i64 0, .emp 115 (.int .u64), .emp 2 (.int .i64)], some (.prod (.int .i64) (.prod (.int .i64) (.prod (.int .i64) (.prod (.int .i64) (.prod (.int .i64) (.prod (.sl 115 (.int .u64)) (.sl 2 (.int .i64)))))))), none, [(0, 2), (1, 2), (2, 2), (3, 2), (4, 83), (6, 36)]⟩),
(114, ⟨true, 7, 88, [.int .i64 0, .int .i64 0, .int .i64 0, .int .i64 0, .int .i64 0, .emp 115 (.int .u64), .emp 2 (.int .i64)], some (.prod (.int .i64) (.prod (.int .i64) (.prod (.int .i64) (.prod (.int .i64) (.prod (.int .i64) (.prod (.sl 115 (.int .u64)) (.sl 2 (.int .i64)))))))), none, [(0, 2), (1, 2), (2, 2), (3, 2), (4, 83), (6, 36)]⟩),
(115, ⟨false, 1, 8, [.int .u64 0], some (.int .u64), none, []⟩),
(116, ⟨false, 1, 8, [.undef], none, none, []⟩),
(117, ⟨false, 1, 8, [.undef], none, none, []⟩),
(118, ⟨false, 1, 8, [.undef], none, none, []⟩),
(119, ⟨false, 1, 8, [.undef], none, none, []⟩),
(120, ⟨false, 1, 8, [.undef], none, none, []⟩),
(121, ⟨false, 1, 8, [.undef], none, none, []⟩),
(122, ⟨false, 1, 8, [.undef], none, none, []⟩),
(123, ⟨false, 1, 8, [.undef], none, none, []⟩),
(124, ⟨false, 1, 8, [.undef], none, none, []⟩),
(125, ⟨false, 1, 8, [.undef], none, none, []⟩),
(126, ⟨false, 1, 8, [.undef], none, none, []⟩),
(127, ⟨false, 1, 8, [.undef], none, none, []⟩),
(128, ⟨false, 1, 8, [.undef], none, none, []⟩),
(129, ⟨false, 1, 8, [.undef], none, none, []⟩),
(130, ⟨false, 1, 8, [.undef], none, none, []⟩),
(131, ⟨true, 7, 88, [.int .i64 0, .int .i64 0, .int .i64 0, .int .i64 0, .int .i64 0, .emp 115 (.int .u64), .emp 2 (.int .i64)], some (.prod (.int .i64) (.prod (.int .i64) (.prod (.int .i64) (.prod (.int .i64) (.prod (.int .i64) (.prod (.sl 115 (.int .u64)) (.sl 2 (.int .i64)))))))), none, [(0, 2), (1, 2), (2, 2), (3, 2), (4, 79), (6, 36)]⟩),
(132, ⟨true, 7, 88, [.int .i64 0, .int .i64 0, .int .i64 0, .int .i64 0, .int .i64 0, .emp 115 (.int .u64), .emp 2 (.int .i64)], some (.prod (.int .i64) (.prod (.int .i64) (.prod (.int .i64) (.prod (.int .i64) (.prod (.int .i64) (.prod (.sl 115 (.int .u64)) (.sl 2 (.int .i64)))))))), none, [(0, 2), (1, 2), (2, 2), (3, 2), (4, 79), (6, 36)]⟩),
(133, ⟨false, 1, 8, [.undef], none, none, []⟩),
(134, ⟨false, 1, 8, [.undef], none, none, []⟩),
(135, ⟨false, 1, 8, [.undef], none, none, []⟩),
(136, ⟨false, 1, 8, [.undef], none, none, []⟩),
(137, ⟨false, 1, 8, [.undef], none, none, []⟩),
(138, ⟨false, 1, 8, [.undef], none, none, []⟩),
(139, ⟨false, 1, 8, [.undef], none, none, []⟩),
(140, ⟨false, 1, 24, [.emp 4 .bool], some (.sl 4 .bool), some 4, []⟩),
(141, ⟨false, 1, 8, [.undef], none, none, []⟩),
(142, ⟨false, 1, 8, [.undef], none, none, []⟩),
(143, ⟨false, 1, 8, [.undef], none, none, []⟩),
(144, ⟨false, 1, 8, [.undef], none, none, []⟩),
(145, ⟨false, 1, 8, [.undef], none, none, []⟩),
(146, ⟨false, 1, 8, [.undef], none, none, []⟩),
(147, ⟨false, 1, 8, [.undef], none, none, []⟩),
(148, ⟨false, 1, 8, [.undef], none, none, []⟩),
(149, ⟨false, 1, 8, [.undef], none, none, []⟩),
(150, ⟨false, 1, 8, [.undef], none, none, []⟩),
(151, ⟨false, 1, 8, [.undef], none, none, []⟩),
(152, ⟨false, 1, 8, [.undef], none, none, []⟩),
(153, ⟨false, 1, 8, [.undef], none, none, []⟩),
(154, ⟨false, 1, 8, [.undef], none, none, []⟩),
(155, ⟨false, 1, 8, [.undef], none, none, []⟩),
(156, ⟨false, 1, 8, [.undef], none, none, []⟩),
(157, ⟨false, 1, 8, [.undef], none, none, []⟩),
(158, ⟨true, 4, 40, [.undef, .undef, .undef, .undef], none, none, [(0, 17), (1, 17), (2, 17), (3, 9)]⟩),
(159, ⟨true, 4, 40, [.undef, .undef, .undef, .undef], none, none, [(0, 17), (1, 17), (2, 17), (3, 9)]⟩),
(160, ⟨true, 0, 0, [], none, none, []⟩),
(161, ⟨true, 0, 0, [], none, none, [(0, 160)]⟩),
(162, ⟨true, 0, 0, [], none, none, [(0, 160)]⟩),
(163, ⟨false, 1, 8, [.undef], none, none, []⟩),
(164, ⟨false, 1, 4, [.int .u32 0], some (.int .u32), none, []⟩),
(165, ⟨false, 1, 1, [.int .u8 0], some (.int .u8), none, []⟩),
(166, ⟨false, 1, 1, [.int .u8 0], some (.int .u8), none, []⟩),
(167, ⟨false, 1, 8, [.undef], none, none, []⟩),
(168, ⟨false, 1, 8, [.undef], none, none, []⟩),
(169, ⟨false, 1, 4, [.int .i32 0], some (.int .i32), none, []⟩),
(170, ⟨false, 1, 4, [.int .i32 0], some (.int .i32), none, []⟩),
(171, ⟨true, 11, 48, [.undef, .undef, .undef, .undef, .undef, .undef, .undef, .undef, .undef, .undef, .undef], none, none, [(0, 12), (1, 12), (2, 164), (3, 165), (4, 5), (5, 5), (6, 166), (7, 167), (8, 168), (9, 169), (10, 170)]⟩),
(172, ⟨true, 11, 48, [.undef, .undef, .undef, .undef, .undef, .undef, .undef, .undef, .undef, .undef, .undef], none, none, [(0, 12), (1, 12), (2, 164), (3, 165), (4, 5), (5, 5), (6, 166), (7, 167), (8, 168), (9, 169), (10, 170)]⟩),
(173, ⟨false, 1, 8, [.undef], none, none, []⟩)]
noncomputable def fns : List (Nat × Func) := [(4, Tryz.f4), (6, Tryz.f6), (7, Tryz.f7), (9, Tryz.f9), (10, Tryz.f10), (12, Tryz.f12), (13, Tryz.f13), (14, Tryz.f14), (15, Tryz.f15), (16, Tryz.f16), (17, Tryz.f17), (18, Tryz.f18), (19, Tryz.f19), (20, Tryz.f20), (21, Tryz.f21), (22, Tryz.f22), (23, Tryz.f23), (24, Tryz.f24), (28, Tryz.f28), (29, Tryz.f29), (33, Tryz.f33), (34, Tryz.f34), (38, Tryz.f38), (39, Tryz.f39), (40, Tryz.f40), (41, Tryz.f41), (42, Tryz.f42), (43, Tryz.f43), (44, Tryz.f44), (45, Tryz.f45), (46, Tryz.f46), (47, Tryz.f47), (48, Tryz.f48), (49, Tryz.f49), (50, Tryz.f50), (51, Tryz.f51), (52, Tryz.f52), (53, Tryz.f53), (54, Tryz.f54), (55, Tryz.f55), (59, Tryz.f59), (61, Tryz.f61), (62, Tryz.f62), (64, Tryz.f64), (69, Tryz.f69), (70, Tryz.f70), (71, Tryz.f71), (72, Tryz.f72), (73, Tryz.f73), (74, Tryz.f74), (75, Tryz.f75), (76, Tryz.f76), (77, Tryz.f77), (78, Tryz.f78), (79, Tryz.f79), (80, Tryz.f80), (81, Tryz.f81), (82, Tryz.f82), (83, Tryz.f83), (85, Tryz.f85), (86, Tryz.f86), (87, Tryz.f87), (88, Tryz.f88), (89, Tryz.f89), (90, Tryz.f90), (91, Tryz.f91), (92, Tryz.f92), (93, Tryz.f93), (94, Tryz.f94), (95, Tryz.f95), (96, Tryz.f96), (97, Tryz.f97), (98, Tryz.f98), (99, Tryz.f99), (100, Tryz.f100), (101, Tryz.f101), (102, Tryz.f102), (103, Tryz.f103), (104, Tryz.f104), (105, Tryz.f105), (106, Tryz.f106), (107, Tryz.f107), (108, Tryz.f108), (109, Tryz.f109), (110, Tryz.f110), (111, Tryz.f111), (112, Tryz.f112), (113, Tryz.f113), (114, Tryz.f114), (115, Tryz.f115), (116, Tryz.f116), (117, Tryz.f117), (118, Tryz.f118), (119, Tryz.f119), (120, Tryz.f120), (121, Tryz.f121), (122, Tryz.f122), (123, Tryz.f123), (124, Tryz.f124), (125, Tryz.f125), (126, Tryz.f126), (127, Tryz.f127), (128, Tryz.f128), (129, Tryz.f129), (130, Tryz.f130), (131, Tryz.f131), (132, Tryz.f132)]
def fis : List (Nat × Fi) := [
(4, ⟨[], [], [(1000018, ⟨⟨[0, 1, 2, 8, 9, 10, 11, 12, 13, 14], []⟩, [(1000000, ⟨[6], []⟩)], ⟨[6], []⟩⟩), (1000029, ⟨⟨[0, 1, 2, 8, 9, 13, 103], []⟩, [(1000000, ⟨[0, 1, 2, 8, 9, 13], []⟩)], ⟨[6], []⟩⟩)]⟩),
(6, ⟨[], [], [(5, ⟨⟨[0, 1, 5], []⟩, [(0, ⟨[1], []⟩)], ⟨[4], []⟩⟩)]⟩),
(7, ⟨[], [], [(5, ⟨⟨[0, 1, 5], []⟩, [(0, ⟨[1], []⟩)], ⟨[4], []⟩⟩)]⟩),
(9, ⟨[], [], [(3, ⟨⟨[0, 3, 4], []⟩, [(0, ⟨[3], []⟩)], ⟨[2], []⟩⟩)]⟩),
(10, ⟨[], [], [(3, ⟨⟨[0, 3, 4], []⟩, [(0, ⟨[3], []⟩)], ⟨[2], []⟩⟩)]⟩),
(12, ⟨[], [], [(4, ⟨⟨[0, 1, 5], []⟩, [(0, ⟨[], []⟩)], ⟨[4], []⟩⟩)]⟩),
(13, ⟨[], [], [(4, ⟨⟨[0, 1, 5], []⟩, [(0, ⟨[], []⟩)], ⟨[4], []⟩⟩)]⟩),
(14, ⟨[], [], [(5, ⟨⟨[0, 1, 5], []⟩, [(0, ⟨[1], []⟩)], ⟨[4], []⟩⟩)]⟩),
(15, ⟨[], [], [(5, ⟨⟨[0, 1, 2, 8, 9], [(8, 0, .own 99)]⟩, [(0, ⟨[8], []⟩)], ⟨[6, 7], []⟩⟩)]⟩),
(16, ⟨[], [], [(3, ⟨⟨[0, 3, 4], []⟩, [(0, ⟨[3], []⟩)], ⟨[2], []⟩⟩)]⟩),
(17, ⟨[], [], []⟩),
(18, ⟨[], [], [(4, ⟨⟨[0, 1, 5], []⟩, [(0, ⟨[], []⟩)], ⟨[4], []⟩⟩)]⟩),
(19, ⟨[], [], [(4, ⟨⟨[0, 1, 5], []⟩, [(0, ⟨[], []⟩)], ⟨[4], []⟩⟩)]⟩),
(20, ⟨[1], [], [(2, ⟨⟨[0, 1, 5], []⟩, [(0, ⟨[1], []⟩)], ⟨[4], []⟩⟩)]⟩),
(21, ⟨[1], [], [(2, ⟨⟨[0, 1, 5], []⟩, [(0, ⟨[1], []⟩)], ⟨[4], []⟩⟩)]⟩),
(22, ⟨[1], [], [(2, ⟨⟨[0, 1, 5], []⟩, [(0, ⟨[1], []⟩)], ⟨[4], []⟩⟩)]⟩),
(23, ⟨[1], [], [(2, ⟨⟨[0, 1, 5], []⟩, [(0, ⟨[1], []⟩)], ⟨[4], []⟩⟩)]⟩),
(24, ⟨[], [], [(2, ⟨⟨[0, 1, 5], []⟩, [(0, ⟨[1], []⟩)], ⟨[4], []⟩⟩)]⟩),
(28, ⟨[], [], []⟩),
(29, ⟨[], [], []⟩),
(33, ⟨[], [], []⟩),
(34, ⟨[], [], []⟩),
(38, ⟨[], [], []⟩),
(39, ⟨[], [], []⟩),
(40, ⟨[], [], []⟩),
(41, ⟨[], [], [(4, ⟨⟨[0, 1, 5], []⟩, [(0, ⟨[], []⟩)], ⟨[4], []⟩⟩)]⟩),
(42, ⟨[], [], [(4, ⟨⟨[0, 1, 5], []⟩, [(0, ⟨[], []⟩)], ⟨[4], []⟩⟩)]⟩),
(43, ⟨[], [], []⟩),
(44, ⟨[], [], []⟩),
(45, ⟨[], [], []⟩),
(46, ⟨[], [], [(5, ⟨⟨[0, 5, 12, 13, 14], []⟩, [(0, ⟨[], []⟩)], ⟨[4], []⟩⟩)]⟩),
(47, ⟨[], [], [(3, ⟨⟨[3, 7, 8, 9], [(3, 0, .own 99)]⟩, [(0, ⟨[3], []⟩)], ⟨[2], []⟩⟩)]⟩),
(48, ⟨[2], [some 1], [(5, ⟨⟨[0, 1, 5, 6], []⟩, [(0, ⟨[0, 5], []⟩)], ⟨[4], []⟩⟩)]⟩),
(49, ⟨[], [some 1], []⟩),
(50, ⟨[], [], []⟩),
(51, ⟨[], [], []⟩),
(52, ⟨[], [], []⟩),
(53, ⟨[], [], [(4, ⟨⟨[0, 3], []⟩, [(0, ⟨[3], []⟩)], ⟨[2], []⟩⟩)]⟩),
(54, ⟨[1], [], [(2, ⟨⟨[0, 1, 5], []⟩, [(0, ⟨[1], []⟩)], ⟨[4], []⟩⟩)]⟩),
(55, ⟨[1], [], [(2, ⟨⟨[0, 1, 5], []⟩, [(0, ⟨[1], []⟩)], ⟨[4], []⟩⟩)]⟩),
(59, ⟨[], [], []⟩),
(61, ⟨[], [], [(4, ⟨⟨[2, 3, 5], []⟩, [(0, ⟨[], []⟩)], ⟨[4], []⟩⟩)]⟩),
(62, ⟨[], [], [(3, ⟨⟨[0, 3, 4, 5, 6], [(5, 0, .own 1)]⟩, [(0, ⟨[4, 5], []⟩)], ⟨[4], []⟩⟩), (7, ⟨⟨[0, 3, 4, 5, 6, 7, 8], [(5, 0, .own 1), (7, 0, .own 1)]⟩, [(2, ⟨[0, 3, 4, 5, 6, 7], []⟩)], ⟨[4], []⟩⟩)]⟩),
(64, ⟨[], [], []⟩),
(69, ⟨[], [], []⟩),
(70, ⟨[], [], []⟩),
(71, ⟨[], [], [(5, ⟨⟨[0, 3, 4], []⟩, [(0, ⟨[3], []⟩)], ⟨[2], []⟩⟩), (10, ⟨⟨[0, 3, 4, 5], []⟩, [(2, ⟨[0, 3, 4], []⟩)], ⟨[2], []⟩⟩)]⟩),
(72, ⟨[], [], [(4, ⟨⟨[1, 3], []⟩, [(0, ⟨[], []⟩)], ⟨[2], []⟩⟩)]⟩),
(73, ⟨[], [], []⟩),
(74, ⟨[], [], []⟩),
(75, ⟨[], [], [(3, ⟨⟨[0, 3, 4], []⟩, [(0, ⟨[3], []⟩)], ⟨[2], []⟩⟩)]⟩),
(76, ⟨[], [], [(5, ⟨⟨[0, 3, 9, 10, 11], []⟩, [(0, ⟨[3], []⟩)], ⟨[2], []⟩⟩)]⟩),
(77, ⟨[], [], [(4, ⟨⟨[0, 12, 13, 14], []⟩, [(0, ⟨[], []⟩)], ⟨[4], []⟩⟩)]⟩),
(78, ⟨[], [], []⟩),
(79, ⟨[], [], []⟩),
(80, ⟨[], [], [(2, ⟨⟨[0, 1, 7, 8], []⟩, [(0, ⟨[], []⟩)], ⟨[4], []⟩⟩)]⟩),
(81, ⟨[], [], [(3, ⟨⟨[0, 3, 4, 5, 17, 18], [(5, 0, .own 1)]⟩, [(0, ⟨[4, 5], []⟩)], ⟨[4], []⟩⟩), (8, ⟨⟨[0, 3, 4, 5, 6, 7, 8, 17, 18, 34, 35, 36], [(5, 0, .own 1), (8, 0, .own 1)]⟩, [(2, ⟨[0, 3, 4, 5, 6, 7, 8, 17, 18], []⟩)], ⟨[4], []⟩⟩)]⟩),
(82, ⟨[], [], []⟩),
(83, ⟨[], [], [(4, ⟨⟨[0, 1, 5], []⟩, [(0, ⟨[], []⟩)], ⟨[4], []⟩⟩)]⟩),
(85, ⟨[], [], [(5, ⟨⟨[0, 1, 5], []⟩, [(0, ⟨[1], []⟩)], ⟨[4], []⟩⟩)]⟩),
(86, ⟨[], [none], [(10, ⟨⟨[2, 6, 7, 8], [(1000007, 1, .dat)]⟩, [(1, ⟨[6, 7], []⟩)], ⟨[6], []⟩⟩)]⟩),
(87, ⟨[], [], [(5, ⟨⟨[0, 2, 4, 5], []⟩, [(0, ⟨[2, 4], []⟩)], ⟨[2, 3], []⟩⟩)]⟩),
(88, ⟨[], [], [(3, ⟨⟨[0, 3, 4], []⟩, [(0, ⟨[3], []⟩)], ⟨[2], []⟩⟩)]⟩),
(89, ⟨[], [], [(4, ⟨⟨[0, 1, 5], []⟩, [(0, ⟨[], []⟩)], ⟨[4], []⟩⟩)]⟩),
(90, ⟨[], [], [(4, ⟨⟨[0, 3], []⟩, [(0, ⟨[], []⟩)], ⟨[2], []⟩⟩)]⟩),
(91, ⟨[], [], []⟩),
(92, ⟨[], [], [(7, ⟨⟨[0, 3, 5, 6, 7, 8], [(6, 0, .own 99)]⟩, [(0, ⟨[5, 6, 7], []⟩)], ⟨[4], []⟩⟩), (16, ⟨⟨[0, 3, 5, 6, 7, 8, 10], []⟩, [(2, ⟨[0, 3, 5, 6, 7, 8], []⟩)], ⟨[4], []⟩⟩), (20, ⟨⟨[5, 6, 7, 11], []⟩, [(4, ⟨[6], []⟩)], ⟨[4], []⟩⟩)]⟩),
(93, ⟨[], [], [(4, ⟨⟨[0, 3], []⟩, [(0, ⟨[], []⟩)], ⟨[2], []⟩⟩)]⟩),
(94, ⟨[], [], []⟩),
(95, ⟨[], [], []⟩),
(96, ⟨[], [], [(6, ⟨⟨[0, 3, 6, 7, 8, 29, 30], []⟩, [(0, ⟨[6, 7, 8], []⟩)], ⟨[4, 5], []⟩⟩), (13, ⟨⟨[0, 3, 6, 7, 8, 9, 10, 11, 29, 30, 52, 53, 54], []⟩, [(2, ⟨[0, 3, 6, 7, 8, 9, 10, 11, 29, 30], []⟩)], ⟨[4, 5], []⟩⟩)]⟩),
(97, ⟨[], [none], [(9, ⟨⟨[6, 7, 36, 37, 38], [(1000007, 1, .dat)]⟩, [(1, ⟨[6, 7], []⟩)], ⟨[6], []⟩⟩)]⟩),
(98, ⟨[], [], []⟩),
(99, ⟨[], [], [(4, ⟨⟨[0, 1, 12, 13], []⟩, [(0, ⟨[], []⟩)], ⟨[4], []⟩⟩)]⟩),
(100, ⟨[], [], []⟩),
(101, ⟨[], [], []⟩),
(102, ⟨[], [], []⟩),
(103, ⟨[], [], []⟩),
(104, ⟨[], [], [(8, ⟨⟨[1, 6, 8, 9, 10], [(8, 0, .own 99)]⟩, [(0, ⟨[6, 8], []⟩)], ⟨[6, 7], []⟩⟩)]⟩),
(105, ⟨[], [], [(6, ⟨⟨[1, 4, 6, 7, 8], []⟩, [(0, ⟨[4, 7], []⟩)], ⟨[4, 5], []⟩⟩)]⟩),
(106, ⟨[], [], [(6, ⟨⟨[1, 4, 6, 7, 8], [(7, 0, .own 99)]⟩, [(0, ⟨[4, 7], []⟩)], ⟨[4, 5], []⟩⟩)]⟩),
(107, ⟨[], [], []⟩),
(108, ⟨[], [], []⟩),
(109, ⟨[], [], []⟩),
(110, ⟨[], [], [(2, ⟨⟨[0, 2, 4, 7], []⟩, [(0, ⟨[0, 4], []⟩)], ⟨[6], []⟩⟩), (1000007, ⟨⟨[0, 4, 63], []⟩, [(1000000, ⟨[0, 4], []⟩)], ⟨[6], []⟩⟩), (1000008, ⟨⟨[0, 4], []⟩, [(1000000, ⟨[6], []⟩)], ⟨[6], []⟩⟩)]⟩),
(111, ⟨[], [], [(3, ⟨⟨[0, 2, 4, 7, 8], []⟩, [(0, ⟨[0, 4, 7], []⟩)], ⟨[6], []⟩⟩)]⟩),
(112, ⟨[], [], [(2, ⟨⟨[0, 1, 7, 8], []⟩, [(0, ⟨[], []⟩)], ⟨[4], []⟩⟩)]⟩),
(113, ⟨[], [], []⟩),
(114, ⟨[], [], []⟩),
(115, ⟨[], [], [(11, ⟨⟨[8, 80, 81, 82], []⟩, [(1, ⟨[8], []⟩)], ⟨[6], []⟩⟩), (1000005, ⟨⟨[0, 1, 2, 7, 17], []⟩, [(1000000, ⟨[], []⟩)], ⟨[6], []⟩⟩), (1000009, ⟨⟨[0, 2, 7, 69], []⟩, [(1000000, ⟨[], []⟩)], ⟨[6], []⟩⟩), (1000021, ⟨⟨[0, 7, 137], []⟩, [(1000000, ⟨[], []⟩)], ⟨[6], []⟩⟩)]⟩),
(116, ⟨[], [], [(1000002, ⟨⟨[0, 3], []⟩, [(1000000, ⟨[2], []⟩)], ⟨[2], []⟩⟩), (1000003, ⟨⟨[0, 52], []⟩, [(1000000, ⟨[0], []⟩)], ⟨[2], []⟩⟩)]⟩),
(117, ⟨[], [], []⟩),
(118, ⟨[], [], []⟩),
(119, ⟨[], [], [(3, ⟨⟨[1, 2, 3, 6, 7, 15, 16], []⟩, [(0, ⟨[2, 6, 7], []⟩)], ⟨[6], []⟩⟩)]⟩),
(120, ⟨[], [], []⟩),
(121, ⟨[], [], [(3, ⟨⟨[2, 4, 5, 12, 13], []⟩, [(0, ⟨[4, 5], []⟩)], ⟨[4], []⟩⟩)]⟩),
(122, ⟨[], [], [(5, ⟨⟨[3, 6, 7, 26, 27], []⟩, [(0, ⟨[6, 7], []⟩)], ⟨[6], []⟩⟩)]⟩),
(123, ⟨[], [], []⟩),
(124, ⟨[], [], []⟩),
(125, ⟨[], [], [(3, ⟨⟨[1, 3, 4], [(3, 0, .own 99)]⟩, [(0, ⟨[3], []⟩)], ⟨[2], []⟩⟩)]⟩),
(126, ⟨[], [], [(3, ⟨⟨[0, 3, 4], []⟩, [(0, ⟨[3], []⟩)], ⟨[2], []⟩⟩)]⟩),
(127, ⟨[], [], []⟩),
(128, ⟨[], [], []⟩),
(129, ⟨[], [], [(2, ⟨⟨[0, 1, 7, 8], []⟩, [(0, ⟨[], []⟩)], ⟨[4], []⟩⟩)]⟩),
(130, ⟨[1], [], [(2, ⟨⟨[1, 3, 10, 11, 12], []⟩, [(0, ⟨[], []⟩)], ⟨[], []⟩⟩)]⟩),
(131, ⟨[], [], []⟩),
(132, ⟨[1], [], []⟩)]
def fiF (f : Nat) : Fi := (look f fis).getD ⟨[], [], []⟩
noncomputable def C : Ctx := { ti := fun t => look t tis, fs := fun f => look f fns, fi := fiF }
def bodyOf (f : Func) : Code := f.body.getD .skip
def loopOf (f : Func) (k : Nat) : Code := (findLoop k (bodyOf f)).getD .skip
def cutOf (f : Func) (k : Nat) : Code := (findCut k (bodyOf f)).getD .skip
def liOf (l : List (Nat × Li)) (k : Nat) : Li := (look k l).getD ⟨⟨[], []⟩, [], ⟨[], []⟩⟩
theorem tis_ok : (tis.all fun x => tiB Tryz.prog x.1 x.2) = true := by kernel_rfl
theorem fns_all : (fns.all fun x => fnB (fiF x.1) x.2) = true := by kernel_rfl
theorem fnp (f : Nat) (x : Func) (r : List (Nat × Func)) (h : Tryz.prog.funcs[f]? = some x) (hr : ∀ y ∈ r, Tryz.prog.funcs[y.1]? = some y.2) : ∀ y ∈ (f, x) :: r, Tryz.prog.funcs[y.1]? = some y.2 := List.forall_mem_cons.2 ⟨h, hr⟩
set_option maxRecDepth 100000 in
theorem fns_prog : ∀ x ∈ fns, Tryz.prog.funcs[x.1]? = some x.2 := (fnp _ _ _ Tryz.func4
(fnp _ _ _ Tryz.func6
(fnp _ _ _ Tryz.func7
(fnp _ _ _ Tryz.func9
(fnp _ _ _ Tryz.func10
(fnp _ _ _ Tryz.func12
(fnp _ _ _ Tryz.func13
(fnp _ _ _ Tryz.func14
(fnp _ _ _ Tryz.func15
(fnp _ _ _ Tryz.func16
(fnp _ _ _ Tryz.func17
(fnp _ _ _ Tryz.func18
(fnp _ _ _ Tryz.func19
(fnp _ _ _ Tryz.func20
(fnp _ _ _ Tryz.func21
(fnp _ _ _ Tryz.func22
(fnp _ _ _ Tryz.func23
(fnp _ _ _ Tryz.func24
(fnp _ _ _ Tryz.func28
(fnp _ _ _ Tryz.func29
(fnp _ _ _ Tryz.func33
(fnp _ _ _ Tryz.func34
(fnp _ _ _ Tryz.func38
(fnp _ _ _ Tryz.func39
(fnp _ _ _ Tryz.func40
(fnp _ _ _ Tryz.func41
(fnp _ _ _ Tryz.func42
(fnp _ _ _ Tryz.func43
(fnp _ _ _ Tryz.func44
(fnp _ _ _ Tryz.func45
(fnp _ _ _ Tryz.func46
(fnp _ _ _ Tryz.func47
(fnp _ _ _ Tryz.func48
(fnp _ _ _ Tryz.func49
(fnp _ _ _ Tryz.func50
(fnp _ _ _ Tryz.func51
(fnp _ _ _ Tryz.func52
(fnp _ _ _ Tryz.func53
(fnp _ _ _ Tryz.func54
(fnp _ _ _ Tryz.func55
(fnp _ _ _ Tryz.func59
(fnp _ _ _ Tryz.func61
(fnp _ _ _ Tryz.func62
(fnp _ _ _ Tryz.func64
(fnp _ _ _ Tryz.func69
(fnp _ _ _ Tryz.func70
(fnp _ _ _ Tryz.func71
(fnp _ _ _ Tryz.func72
(fnp _ _ _ Tryz.func73
(fnp _ _ _ Tryz.func74
(fnp _ _ _ Tryz.func75
(fnp _ _ _ Tryz.func76
(fnp _ _ _ Tryz.func77
(fnp _ _ _ Tryz.func78
(fnp _ _ _ Tryz.func79
(fnp _ _ _ Tryz.func80
(fnp _ _ _ Tryz.func81
(fnp _ _ _ Tryz.func82
(fnp _ _ _ Tryz.func83
(fnp _ _ _ Tryz.func85
(fnp _ _ _ Tryz.func86
(fnp _ _ _ Tryz.func87
(fnp _ _ _ Tryz.func88
(fnp _ _ _ Tryz.func89
(fnp _ _ _ Tryz.func90
(fnp _ _ _ Tryz.func91
(fnp _ _ _ Tryz.func92
(fnp _ _ _ Tryz.func93
(fnp _ _ _ Tryz.func94
(fnp _ _ _ Tryz.func95
(fnp _ _ _ Tryz.func96
(fnp _ _ _ Tryz.func97
(fnp _ _ _ Tryz.func98
(fnp _ _ _ Tryz.func99
(fnp _ _ _ Tryz.func100
(fnp _ _ _ Tryz.func101
(fnp _ _ _ Tryz.func102
(fnp _ _ _ Tryz.func103
(fnp _ _ _ Tryz.func104
(fnp _ _ _ Tryz.func105
(fnp _ _ _ Tryz.func106
(fnp _ _ _ Tryz.func107
(fnp _ _ _ Tryz.func108
(fnp _ _ _ Tryz.func109
(fnp _ _ _ Tryz.func110
(fnp _ _ _ Tryz.func111
(fnp _ _ _ Tryz.func112
(fnp _ _ _ Tryz.func113
(fnp _ _ _ Tryz.func114
(fnp _ _ _ Tryz.func115
(fnp _ _ _ Tryz.func116
(fnp _ _ _ Tryz.func117
(fnp _ _ _ Tryz.func118
(fnp _ _ _ Tryz.func119
(fnp _ _ _ Tryz.func120
(fnp _ _ _ Tryz.func121
(fnp _ _ _ Tryz.func122
(fnp _ _ _ Tryz.func123
(fnp _ _ _ Tryz.func124
(fnp _ _ _ Tryz.func125
(fnp _ _ _ Tryz.func126
(fnp _ _ _ Tryz.func127
(fnp _ _ _ Tryz.func128
(fnp _ _ _ Tryz.func129
(fnp _ _ _ Tryz.func130
(fnp _ _ _ Tryz.func131
(fnp _ _ _ Tryz.func132
(fun _ h => by cases h))))))))))))))))))))))))))))))))))))))))))))))))))))))))))))))))))))))))))))))))))))))))))))))))))))))))))))
theorem C_ok : CtxOK Tryz.prog C := ctx_ok tis_ok fns_prog
theorem C_fns : FnsOK Tryz.prog C := Go.Vsi.fns_ok fns_all
theorem C_follows : Tryz.prog.follows .mixedOrders = true := by kernel_rfl
def D0 (n : Nat) : CallF := noC
theorem D0_ok {X0 : CallF} (hX : CallF.Mono X0) : ∀ n g a K, D0 n g a K → callM C X0 n g a K := fun n => noC_ok
end Go.Vsi
end

section
set_option linter.unusedVariables false
namespace Go.Vsi
open Go.Proofs
section
variable {X0 : CallF} (hX : CallF.Mono X0)
include hX
abbrev laws_szDecl.a : List TS := [.a [.o .str, .o (.int .i64)], .c (.o (.int .i64))]
def laws_szDecl.u (n : Nat) (v : VA laws_szDecl.a) (K : RES → Prop) : Prop := laws_szDecl.c n v.1.1 v.1.2.1 v.2.1 (fun r0 => K ⟨.c (.int .i64 r0), []⟩)
theorem laws_szDecl_ok : ∀ n v K, laws_szDecl.u n v K → callM C X0 n 28 (fillA laws_szDecl.a v) K :=
 call_tell hX (fn := Tryz.f28) (c := bodyOf Tryz.f28) (by kernel_rfl) (by kernel_rfl) (A := laws_szDecl.a) (u := laws_szDecl.u) (fun _ _ h => h) (call := D0) (lp := fun n => noL) (D0_ok hX) (fun n => noL_ok) (fun n v K => by kernel_rfl)
def D1 (n : Nat) : CallF := orC 28 laws_szDecl.a (laws_szDecl.u n) (D0 n)
theorem D1_ok : ∀ n g a K, D1 n g a K → callM C X0 n g a K := fun n => orC_ok (laws_szDecl_ok hX n) (D0_ok hX n)
abbrev laws_szDeclS.a : List TS := [.c (.o (.dat 53 (.prod .str (.int .i64)))), .c (.o (.int .i64))]
def laws_szDeclS.u (n : Nat) (v : VA laws_szDeclS.a) (K : RES → Prop) : Prop := laws_szDeclS.c n v.1 v.2.1 (fun r0 => K ⟨.c (.int .i64 r0), []⟩)
abbrev laws_szDeclS.l5.s : ST := ⟨[(0, .c (.o (.dat 53 (.prod .str (.int .i64))))), (1, .c (.o (.int .i64))), (5, .c (.o (.int .i64)))], [], [], [], []⟩
def laws_szDeclS.l5.u (n : Nat) (v : laws_szDeclS.l5.s.V) (K : X → St → Prop) : Prop := laws_szDeclS.l5 n v.1.1 v.1.2.1 v.1.2.2.1 (fun y0 => K (.exit 0) ⟨[(1, .c (.int .i64 y0))], [], [], [], []⟩) (fun y0 => K .ret ⟨[(4, .c (.int .i64 y0))], [], [], [], []⟩)
theorem laws_szDeclS.l5_ok : ∀ n v K, laws_szDeclS.l5.u n v K → loopM C X0 n 6 5 (laws_szDeclS.l5.s.fill v) K :=
 loop_tell hX (fn := Tryz.f6) (c := bodyOf Tryz.f6) (a := loopOf Tryz.f6 5) (li := liOf (C.fi 6).loops 5) (by kernel_rfl) (by kernel_rfl) (of_decide_eq_true rfl) (by kernel_rfl) (by kernel_rfl) (T := laws_szDeclS.l5.s) (u := laws_szDeclS.l5.u) (fun _ _ h => h) (call := D1) (lp := fun n => noL) (D1_ok hX) (fun n => noL_ok) (fun n v K => by kernel_rfl)
theorem laws_szDeclS_ok : ∀ n v K, laws_szDeclS.u n v K → callM C X0 n 6 (fillA laws_szDeclS.a v) K :=
 call_tell hX (fn := Tryz.f6) (c := bodyOf Tryz.f6) (by kernel_rfl) (by kernel_rfl) (A := laws_szDeclS.a) (u := laws_szDeclS.u) (fun _ _ h => h) (call := D1) (lp := fun n => orL 5 laws_szDeclS.l5.s (laws_szDeclS.l5.u n) noL) (D1_ok hX) (fun n => (orL_ok (laws_szDeclS.l5_ok hX n) noL_ok)) (fun n v K => by kernel_rfl)
def D2 (n : Nat) : CallF := orC 6 laws_szDeclS.a (laws_szDeclS.u n) (D1 n)
theorem D2_ok : ∀ n g a K, D2 n g a K → callM C X0 n g a K := fun n => orC_ok (laws_szDeclS_ok hX n) (D1_ok hX n)
abbrev laws_szUint64S.a : List TS := [.c (.o (.dat 115 (.int .u64))), .c (.o (.int .i64))]
def laws_szUint64S.u (n : Nat) (v : VA laws_szUint64S.a) (K : RES → Prop) : Prop := laws_szUint64S.c n v.1 v.2.1 (fun r0 => K ⟨.c (.int .i64 r0), []⟩)
theorem laws_szUint64S_ok : ∀ n v K, laws_szUint64S.u n v K → callM C X0 n 70 (fillA laws_szUint64S.a v) K :=
 call_tell hX (fn := Tryz.f70) (c := bodyOf Tryz.f70) (by kernel_rfl) (by kernel_rfl) (A := laws_szUint64S.a) (u := laws_szUint64S.u) (fun _ _ h => h) (call := D2) (lp := fun n => noL) (D2_ok hX) (fun n => noL_ok) (fun n v K => by kernel_rfl)
def D3 (n : Nat) : CallF := orC 70 laws_szUint64S.a (laws_szUint64S.u n) (D2 n)
theorem D3_ok : ∀ n g a K, D3 n g a K → callM C X0 n g a K := fun n => orC_ok (laws_szUint64S_ok hX n) (D2_ok hX n)
abbrev laws_szBits.a : List TS := [.a [.o (.int .i64), .o (.dat 115 (.int .u64))], .c (.o (.int .i64))]
def laws_szBits.u (n : Nat) (v : VA laws_szBits.a) (K : RES → Prop) : Prop := laws_szBits.c n v.1.1 v.1.2.1 v.2.1 (fun r0 => K ⟨.c (.int .i64 r0), []⟩)
theorem laws_szBits_ok : ∀ n v K, laws_szBits.u n v K → callM C X0 n 40 (fillA laws_szBits.a v) K :=
 call_tell hX (fn := Tryz.f40) (c := bodyOf Tryz.f40) (by kernel_rfl) (by kernel_rfl) (A := laws_szBits.a) (u := laws_szBits.u) (fun _ _ h => h) (call := D3) (lp := fun n => noL) (D3_ok hX) (fun n => noL_ok) (fun n v K => by kernel_rfl)
def D4 (n : Nat) : CallF := orC 40 laws_szBits.a (laws_szBits.u n) (D3 n)
theorem D4_ok : ∀ n g a K, D4 n g a K → callM C X0 n g a K := fun n => orC_ok (laws_szBits_ok hX n) (D3_ok hX n)
abbrev laws_szInt64S.a : List TS := [.c (.o (.dat 2 (.int .i64))), .c (.o (.int .i64))]
def laws_szInt64S.u (n : Nat) (v : VA laws_szInt64S.a) (K : RES → Prop) : Prop := laws_szInt64S.c n v.1 v.2.1 (fun r0 => K ⟨.c (.int .i64 r0), []⟩)
theorem laws_szInt64S_ok : ∀ n v K, laws_szInt64S.u n v K → callM C X0 n 124 (fillA laws_szInt64S.a v) K :=
 call_tell hX (fn := Tryz.f124) (c := bodyOf Tryz.f124) (by kernel_rfl) (by kernel_rfl) (A := laws_szInt64S.a) (u := laws_szInt64S.u) (fun _ _ h => h) (call := D4) (lp := fun n => noL) (D4_ok hX) (fun n => noL_ok) (fun n v K => by kernel_rfl)
def D5 (n : Nat) : CallF := orC 124 laws_szInt64S.a (laws_szInt64S.u n) (D4 n)
theorem D5_ok : ∀ n g a K, D5 n g a K → callM C X0 n g a K := fun n => orC_ok (laws_szInt64S_ok hX n) (D4_ok hX n)
abbrev laws_szTNode.a : List TS := [.a [.o (.int .i64), .o (.int .i64), .o (.int .i64), .o (.int .i64), .o (.int .i64), .o (.dat 115 (.int .u64)), .o (.dat 2 (.int .i64))], .c (.o (.int .i64))]
def laws_szTNode.u (n : Nat) (v : VA laws_szTNode.a) (K : RES → Prop) : Prop := laws_szTNode.c n v.1.1 v.1.2.1 v.1.2.2.1 v.1.2.2.2.1 v.1.2.2.2.2.1 v.1.2.2.2.2.2.1 v.1.2.2.2.2.2.2.1 v.2.1 (fun r0 => K ⟨.c (.int .i64 r0), []⟩)
theorem laws_szTNode_ok : ∀ n v K, laws_szTNode.u n v K → callM C X0 n 101 (fillA laws_szTNode.a v) K :=
 call_tell hX (fn := Tryz.f101) (c := bodyOf Tryz.f101) (by kernel_rfl) (by kernel_rfl) (A := laws_szTNode.a) (u := laws_szTNode.u) (fun _ _ h => h) (call := D5) (lp := fun n => noL) (D5_ok hX) (fun n => noL_ok) (fun n v K => by kernel_rfl)
def D6 (n : Nat) : CallF := orC 101 laws_szTNode.a (laws_szTNode.u n) (D5 n)
theorem D6_ok : ∀ n g a K, D6 n g a K → callM C X0 n g a K := fun n => orC_ok (laws_szTNode_ok hX n) (D5_ok hX n)
abbrev laws_szTNodeS.a : List TS := [.c (.o (.dat 132 (.prod (.int .i64) (.prod (.int .i64) (.prod (.int .i64) (.prod (.int .i64) (.prod (.int .i64) (.prod (.sl 115 (.int .u64)) (.sl 2 (.int .i64)))))))))), .c (.o (.int .i64))]
def laws_szTNodeS.u (n : Nat) (v : VA laws_szTNodeS.a) (K : RES → Prop) : Prop := laws_szTNodeS.c n v.1 v.2.1 (fun r0 => K ⟨.c (.int .i64 r0), []⟩)
abbrev laws_szTNodeS.l5.s : ST := ⟨[(0, .c (.o (.dat 132 (.prod (.int .i64) (.prod (.int .i64) (.prod (.int .i64) (.prod (.int .i64) (.prod (.int .i64) (.prod (.sl 115 (.int .u64)) (.sl 2 (.int .i64))))))))))), (1, .c (.o (.int .i64))), (5, .c (.o (.int .i64)))], [], [], [], []⟩
def laws_szTNodeS.l5.u (n : Nat) (v : laws_szTNodeS.l5.s.V) (K : X → St → Prop) : Prop := laws_szTNodeS.l5 n v.1.1 v.1.2.1 v.1.2.2.1 (fun y0 => K (.exit 0) ⟨[(1, .c (.int .i64 y0))], [], [], [], []⟩) (fun y0 => K .ret ⟨[(4, .c (.int .i64 y0))], [], [], [], []⟩)
theorem laws_szTNodeS.l5_ok : ∀ n v K, laws_szTNodeS.l5.u n v K → loopM C X0 n 85 5 (laws_szTNodeS.l5.s.fill v) K :=
 loop_tell hX (fn := Tryz.f85) (c := bodyOf Tryz.f85) (a := loopOf Tryz.f85 5) (li := liOf (C.fi 85).loops 5) (by kernel_rfl) (by kernel_rfl) (of_decide_eq_true rfl) (by kernel_rfl) (by kernel_rfl) (T := laws_szTNodeS.l5.s) (u := laws_szTNodeS.l5.u) (fun _ _ h => h) (call := D6) (lp := fun n => noL) (D6_ok hX) (fun n => noL_ok) (fun n v K => by kernel_rfl)
theorem laws_szTNodeS_ok : ∀ n v K, laws_szTNodeS.u n v K → callM C X0 n 85 (fillA laws_szTNodeS.a v) K :=
 call_tell hX (fn := Tryz.f85) (c := bodyOf Tryz.f85) (by kernel_rfl) (by kernel_rfl) (A := laws_szTNodeS.a) (u := laws_szTNodeS.u) (fun _ _ h => h) (call := D6) (lp := fun n => orL 5 laws_szTNodeS.l5.s (laws_szTNodeS.l5.u n) noL) (D6_ok hX) (fun n => (orL_ok (laws_szTNodeS.l5_ok hX n) noL_ok)) (fun n v K => by kernel_rfl)
def D7 (n : Nat) : CallF := orC 85 laws_szTNodeS.a (laws_szTNodeS.u n) (D6 n)
theorem D7_ok : ∀ n g a K, D7 n g a K → callM C X0 n g a K := fun n => orC_ok (laws_szTNodeS_ok hX n) (D6_ok hX n)
abbrev laws_szTerm.a : List TS := [.a [.o (.dat 132 (.prod (.int .i64) (.prod (.int .i64) (.prod (.int .i64) (.prod (.int .i64) (.prod (.int .i64) (.prod (.sl 115 (.int .u64)) (.sl 2 (.int .i64)))))))))], .c (.o (.int .i64))]
def laws_szTerm.u (n : Nat) (v : VA laws_szTerm.a) (K : RES → Prop) : Prop := laws_szTerm.c n v.1.1 v.2.1 (fun r0 => K ⟨.c (.int .i64 r0), []⟩)
theorem laws_szTerm_ok : ∀ n v K, laws_szTerm.u n v K → callM C X0 n 59 (fillA laws_szTerm.a v) K :=
 call_tell hX (fn := Tryz.f59) (c := bodyOf Tryz.f59) (by kernel_rfl) (by kernel_rfl) (A := laws_szTerm.a) (u := laws_szTerm.u) (fun _ _ h => h) (call := D7) (lp := fun n => noL) (D7_ok hX) (fun n => noL_ok) (fun n v K => by kernel_rfl)
def D8 (n : Nat) : CallF := orC 59 laws_szTerm.a (laws_szTerm.u n) (D7 n)
theorem D8_ok : ∀ n g a K, D8 n g a K → callM C X0 n g a K := fun n => orC_ok (laws_szTerm_ok hX n) (D7_ok hX n)
abbrev laws_szLiteral.a : List TS := [.a [.o (.int .i64), .o .bool, .o (.dat 132 (.prod (.int .i64) (.prod (.int .i64) (.prod (.int .i64) (.prod (.int .i64) (.prod (.int .i64) (.prod (.sl 115 (.int .u64)) (.sl 2 (.int .i64))))))))), .o (.dat 132 (.prod (.int .i64) (.prod (.int .i64) (.prod (.int .i64) (.prod (.int .i64) (.prod (.int .i64) (.prod (.sl 115 (.int .u64)) (.sl 2 (.int .i64)))))))))], .c (.o (.int .i64))]
def laws_szLiteral.u (n : Nat) (v : VA laws_szLiteral.a) (K : RES → Prop) : Prop := laws_szLiteral.c n v.1.1 v.1.2.1 v.1.2.2.1 v.1.2.2.2.1 v.2.1 (fun r0 => K ⟨.c (.int .i64 r0), []⟩)
theorem laws_szLiteral_ok : ∀ n v K, laws_szLiteral.u n v K → callM C X0 n 29 (fillA laws_szLiteral.a v) K :=
 call_tell hX (fn := Tryz.f29) (c := bodyOf Tryz.f29) (by kernel_rfl) (by kernel_rfl) (A := laws_szLiteral.a) (u := laws_szLiteral.u) (fun _ _ h => h) (call := D8) (lp := fun n => noL) (D8_ok hX) (fun n => noL_ok) (fun n v K => by kernel_rfl)
def D9 (n : Nat) : CallF := orC 29 laws_szLiteral.a (laws_szLiteral.u n) (D8 n)
theorem D9_ok : ∀ n g a K, D9 n g a K → callM C X0 n g a K := fun n => orC_ok (laws_szLiteral_ok hX n) (D8_ok hX n)
abbrev laws_szLiteralS.a : List TS := [.c (.o (.dat 59 (.prod (.int .i64) (.prod .bool (.prod (.sl 132 (.prod (.int .i64) (.prod (.int .i64) (.prod (.int .i64) (.prod (.int .i64) (.prod (.int .i64) (.prod (.sl 115 (.int .u64)) (.sl 2 (.int .i64))))))))) (.sl 132 (.prod (.int .i64) (.prod (.int .i64) (.prod (.int .i64) (.prod (.int .i64) (.prod (.int .i64) (.prod (.sl 115 (.int .u64)) (.sl 2 (.int .i64)))))))))))))), .c (.o (.int .i64))]
def laws_szLiteralS.u (n : Nat) (v : VA laws_szLiteralS.a) (K : RES → Prop) : Prop := laws_szLiteralS.c n v.1 v.2.1 (fun r0 => K ⟨.c (.int .i64 r0), []⟩)
abbrev laws_szLiteralS.l5.s : ST := ⟨[(0, .c (.o (.dat 59 (.prod (.int .i64) (.prod .bool (.prod (.sl 132 (.prod (.int .i64) (.prod (.int .i64) (.prod (.int .i64) (.prod (.int .i64) (.prod (.int .i64) (.prod (.sl 115 (.int .u64)) (.sl 2 (.int .i64))))))))) (.sl 132 (.prod (.int .i64) (.prod (.int .i64) (.prod (.int .i64) (.prod (.int .i64) (.prod (.int .i64) (.prod (.sl 115 (.int .u64)) (.sl 2 (.int .i64))))))))))))))), (1, .c (.o (.int .i64))), (5, .c (.o (.int .i64)))], [], [], [], []⟩
def laws_szLiteralS.l5.u (n : Nat) (v : laws_szLiteralS.l5.s.V) (K : X → St → Prop) : Prop := laws_szLiteralS.l5 n v.1.1 v.1.2.1 v.1.2.2.1 (fun y0 => K (.exit 0) ⟨[(1, .c (.int .i64 y0))], [], [], [], []⟩) (fun y0 => K .ret ⟨[(4, .c (.int .i64 y0))], [], [], [], []⟩)
theorem laws_szLiteralS.l5_ok : ∀ n v K, laws_szLiteralS.l5.u n v K → loopM C X0 n 7 5 (laws_szLiteralS.l5.s.fill v) K :=
 loop_tell hX (fn := Tryz.f7) (c := bodyOf Tryz.f7) (a := loopOf Tryz.f7 5) (li := liOf (C.fi 7).loops 5) (by kernel_rfl) (by kernel_rfl) (of_decide_eq_true rfl) (by kernel_rfl) (by kernel_rfl) (T := laws_szLiteralS.l5.s) (u := laws_szLiteralS.l5.u) (fun _ _ h => h) (call := D9) (lp := fun n => noL) (D9_ok hX) (fun n => noL_ok) (fun n v K => by kernel_rfl)
theorem laws_szLiteralS_ok : ∀ n v K, laws_szLiteralS.u n v K → callM C X0 n 7 (fillA laws_szLiteralS.a v) K :=
 call_tell hX (fn := Tryz.f7) (c := bodyOf Tryz.f7) (by kernel_rfl) (by kernel_rfl) (A := laws_szLiteralS.a) (u := laws_szLiteralS.u) (fun _ _ h => h) (call := D9) (lp := fun n => orL 5 laws_szLiteralS.l5.s (laws_szLiteralS.l5.u n) noL) (D9_ok hX) (fun n => (orL_ok (laws_szLiteralS.l5_ok hX n) noL_ok)) (fun n v K => by kernel_rfl)
def D10 (n : Nat) : CallF := orC 7 laws_szLiteralS.a (laws_szLiteralS.u n) (D9 n)
theorem D10_ok : ∀ n g a K, D10 n g a K → callM C X0 n g a K := fun n => orC_ok (laws_szLiteralS_ok hX n) (D9_ok hX n)
abbrev laws_szBitsS.a : List TS := [.c (.o (.dat 79 (.prod (.int .i64) (.sl 115 (.int .u64))))), .c (.o (.int .i64))]
def laws_szBitsS.u (n : Nat) (v : VA laws_szBitsS.a) (K : RES → Prop) : Prop := laws_szBitsS.c n v.1 v.2.1 (fun r0 => K ⟨.c (.int .i64 r0), []⟩)
abbrev laws_szBitsS.l5.s : ST := ⟨[(0, .c (.o (.dat 79 (.prod (.int .i64) (.sl 115 (.int .u64)))))), (1, .c (.o (.int .i64))), (5, .c (.o (.int .i64)))], [], [], [], []⟩
def laws_szBitsS.l5.u (n : Nat) (v : laws_szBitsS.l5.s.V) (K : X → St → Prop) : Prop := laws_szBitsS.l5 n v.1.1 v.1.2.1 v.1.2.2.1 (fun y0 => K (.exit 0) ⟨[(1, .c (.int .i64 y0))], [], [], [], []⟩) (fun y0 => K .ret ⟨[(4, .c (.int .i64 y0))], [], [], [], []⟩)
theorem laws_szBitsS.l5_ok : ∀ n v K, laws_szBitsS.l5.u n v K → loopM C X0 n 14 5 (laws_szBitsS.l5.s.fill v) K :=
 loop_tell hX (fn := Tryz.f14) (c := bodyOf Tryz.f14) (a := loopOf Tryz.f14 5) (li := liOf (C.fi 14).loops 5) (by kernel_rfl) (by kernel_rfl) (of_decide_eq_true rfl) (by kernel_rfl) (by kernel_rfl) (T := laws_szBitsS.l5.s) (u := laws_szBitsS.l5.u) (fun _ _ h => h) (call := D10) (lp := fun n => noL) (D10_ok hX) (fun n => noL_ok) (fun n v K => by kernel_rfl)
theorem laws_szBitsS_ok : ∀ n v K, laws_szBitsS.u n v K → callM C X0 n 14 (fillA laws_szBitsS.a v) K :=
 call_tell hX (fn := Tryz.f14) (c := bodyOf Tryz.f14) (by kernel_rfl) (by kernel_rfl) (A := laws_szBitsS.a) (u := laws_szBitsS.u) (fun _ _ h => h) (call := D10) (lp := fun n => orL 5 laws_szBitsS.l5.s (laws_szBitsS.l5.u n) noL) (D10_ok hX) (fun n => (orL_ok (laws_szBitsS.l5_ok hX n) noL_ok)) (fun n v K => by kernel_rfl)
def D11 (n : Nat) : CallF := orC 14 laws_szBitsS.a (laws_szBitsS.u n) (D10 n)
theorem D11_ok : ∀ n g a K, D11 n g a K → callM C X0 n g a K := fun n => orC_ok (laws_szBitsS_ok hX n) (D10_ok hX n)
abbrev laws_toDecl.a : List TS := [.a [.o .str, .o (.int .i64)]]
def laws_toDecl.u (n : Nat) (v : VA laws_toDecl.a) (K : RES → Prop) : Prop := laws_toDecl.c n v.1.1 v.1.2.1 (fun r0 r1 => K ⟨.agg [.str r0, .int .i64 r1], []⟩)
theorem laws_toDecl_ok : ∀ n v K, laws_toDecl.u n v K → callM C X0 n 33 (fillA laws_toDecl.a v) K :=
 call_tell hX (fn := Tryz.f33) (c := bodyOf Tryz.f33) (by kernel_rfl) (by kernel_rfl) (A := laws_toDecl.a) (u := laws_toDecl.u) (fun _ _ h => h) (call := D11) (lp := fun n => noL) (D11_ok hX) (fun n => noL_ok) (fun n v K => by kernel_rfl)
def D12 (n : Nat) : CallF := orC 33 laws_toDecl.a (laws_toDecl.u n) (D11 n)
theorem D12_ok : ∀ n g a K, D12 n g a K → callM C X0 n g a K := fun n => orC_ok (laws_toDecl_ok hX n) (D11_ok hX n)
abbrev laws_toDeclS.a : List TS := [.c (.o (.dat 53 (.prod .str (.int .i64))))]
def laws_toDeclS.u (n : Nat) (v : VA laws_toDeclS.a) (K : RES → Prop) : Prop := laws_toDeclS.c n v.1 (fun r0 => K ⟨.c (.row ⟨63, .prod .str (.int .i64), r0, 99, none⟩), []⟩)
abbrev laws_toDeclS.l3.s : ST := ⟨[(0, .c (.o (.dat 53 (.prod .str (.int .i64))))), (3, .c (.o (.own 224))), (4, .c (.o (.int .i64)))], [⟨224, 63, .prod .str (.int .i64), 99⟩], [], [], []⟩
def laws_toDeclS.l3.u (n : Nat) (v : laws_toDeclS.l3.s.V) (K : X → St → Prop) : Prop := laws_toDeclS.l3 n v.1.1 v.1.2.2.1 v.2.1.1 (fun y0 => K (.exit 0) ⟨[(3, .c (.own 224))], [(224, ⟨63, .prod .str (.int .i64), y0, 99, none⟩)], [], [], []⟩)
theorem laws_toDeclS.l3_ok : ∀ n v K, laws_toDeclS.l3.u n v K → loopM C X0 n 9 3 (laws_toDeclS.l3.s.fill v) K :=
 loop_tell hX (fn := Tryz.f9) (c := bodyOf Tryz.f9) (a := loopOf Tryz.f9 3) (li := liOf (C.fi 9).loops 3) (by kernel_rfl) (by kernel_rfl) (of_decide_eq_true rfl) (by kernel_rfl) (by kernel_rfl) (T := laws_toDeclS.l3.s) (u := laws_toDeclS.l3.u) (fun _ _ h => h) (call := D12) (lp := fun n => noL) (D12_ok hX) (fun n => noL_ok) (fun n v K => by kernel_rfl)
theorem laws_toDeclS_ok : ∀ n v K, laws_toDeclS.u n v K → callM C X0 n 9 (fillA laws_toDeclS.a v) K :=
 call_tell hX (fn := Tryz.f9) (c := bodyOf Tryz.f9) (by kernel_rfl) (by kernel_rfl) (A := laws_toDeclS.a) (u := laws_toDeclS.u) (fun _ _ h => h) (call := D12) (lp := fun n => orL 3 laws_toDeclS.l3.s (laws_toDeclS.l3.u n) noL) (D12_ok hX) (fun n => (orL_ok (laws_toDeclS.l3_ok hX n) noL_ok)) (fun n v K => by kernel_rfl)
def D13 (n : Nat) : CallF := orC 9 laws_toDeclS.a (laws_toDeclS.u n) (D12 n)
theorem D13_ok : ∀ n g a K, D13 n g a K → callM C X0 n g a K := fun n => orC_ok (laws_toDeclS_ok hX n) (D12_ok hX n)
abbrev laws_toUint64S.a : List TS := [.c (.o (.dat 115 (.int .u64)))]
def laws_toUint64S.u (n : Nat) (v : VA laws_toUint64S.a) (K : RES → Prop) : Prop := laws_toUint64S.c n v.1 (fun r0 => K ⟨.c (.row ⟨115, .int .u64, r0, 99, none⟩), []⟩)
abbrev laws_toUint64S.l3.s : ST := ⟨[(0, .c (.o (.dat 115 (.int .u64)))), (3, .c (.o (.own 224))), (4, .c (.o (.int .i64)))], [⟨224, 115, .int .u64, 99⟩], [], [], []⟩
def laws_toUint64S.l3.u (n : Nat) (v : laws_toUint64S.l3.s.V) (K : X → St → Prop) : Prop := laws_toUint64S.l3 n v.1.1 v.1.2.2.1 v.2.1.1 (fun y0 => K (.exit 0) ⟨[(3, .c (.own 224))], [(224, ⟨115, .int .u64, y0, 99, none⟩)], [], [], []⟩)
theorem laws_toUint64S.l3_ok : ∀ n v K, laws_toUint64S.l3.u n v K → loopM C X0 n 75 3 (laws_toUint64S.l3.s.fill v) K :=
 loop_tell hX (fn := Tryz.f75) (c := bodyOf Tryz.f75) (a := loopOf Tryz.f75 3) (li := liOf (C.fi 75).loops 3) (by kernel_rfl) (by kernel_rfl) (of_decide_eq_true rfl) (by kernel_rfl) (by kernel_rfl) (T := laws_toUint64S.l3.s) (u := laws_toUint64S.l3.u) (fun _ _ h => h) (call := D13) (lp := fun n => noL) (D13_ok hX) (fun n => noL_ok) (fun n v K => by kernel_rfl)
theorem laws_toUint64S_ok : ∀ n v K, laws_toUint64S.u n v K → callM C X0 n 75 (fillA laws_toUint64S.a v) K :=
 call_tell hX (fn := Tryz.f75) (c := bodyOf Tryz.f75) (by kernel_rfl) (by kernel_rfl) (A := laws_toUint64S.a) (u := laws_toUint64S.u) (fun _ _ h => h) (call := D13) (lp := fun n => orL 3 laws_toUint64S.l3.s (laws_toUint64S.l3.u n) noL) (D13_ok hX) (fun n => (orL_ok (laws_toUint64S.l3_ok hX n) noL_ok)) (fun n v K => by kernel_rfl)
def D14 (n : Nat) : CallF := orC 75 laws_toUint64S.a (laws_toUint64S.u n) (D13 n)
theorem D14_ok : ∀ n g a K, D14 n g a K → callM C X0 n g a K := fun n => orC_ok (laws_toUint64S_ok hX n) (D13_ok hX n)
abbrev laws_toBits.a : List TS := [.a [.o (.int .i64), .o (.dat 115 (.int .u64))]]
def laws_toBits.u (n : Nat) (v : VA laws_toBits.a) (K : RES → Prop) : Prop := laws_toBits.c n v.1.1 v.1.2.1 (fun r0 r1 => K ⟨.agg [.int .i64 r0, .row ⟨115, .int .u64, r1, 99, none⟩], []⟩)
theorem laws_toBits_ok : ∀ n v K, laws_toBits.u n v K → callM C X0 n 44 (fillA laws_toBits.a v) K :=
 call_tell hX (fn := Tryz.f44) (c := bodyOf Tryz.f44) (by kernel_rfl) (by kernel_rfl) (A := laws_toBits.a) (u := laws_toBits.u) (fun _ _ h => h) (call := D14) (lp := fun n => noL) (D14_ok hX) (fun n => noL_ok) (fun n v K => by kernel_rfl)
def D15 (n : Nat) : CallF := orC 44 laws_toBits.a (laws_toBits.u n) (D14 n)
theorem D15_ok : ∀ n g a K, D15 n g a K → callM C X0 n g a K := fun n => orC_ok (laws_toBits_ok hX n) (D14_ok hX n)
abbrev laws_toInt64S.a : List TS := [.c (.o (.dat 2 (.int .i64)))]
def laws_toInt64S.u (n : Nat) (v : VA laws_toInt64S.a) (K : RES → Prop) : Prop := laws_toInt64S.c n v.1 (fun r0 => K ⟨.c (.row ⟨2, .int .i64, r0, 99, none⟩), []⟩)
abbrev laws_toInt64S.l3.s : ST := ⟨[(0, .c (.o (.dat 2 (.int .i64)))), (3, .c (.o (.own 224))), (4, .c (.o (.int .i64)))], [⟨224, 2, .int .i64, 99⟩], [], [], []⟩
def laws_toInt64S.l3.u (n : Nat) (v : laws_toInt64S.l3.s.V) (K : X → St → Prop) : Prop := laws_toInt64S.l3 n v.1.1 v.1.2.2.1 v.2.1.1 (fun y0 => K (.exit 0) ⟨[(3, .c (.own 224))], [(224, ⟨2, .int .i64, y0, 99, none⟩)], [], [], []⟩)
theorem laws_toInt64S.l3_ok : ∀ n v K, laws_toInt64S.l3.u n v K → loopM C X0 n 126 3 (laws_toInt64S.l3.s.fill v) K :=
 loop_tell hX (fn := Tryz.f126) (c := bodyOf Tryz.f126) (a := loopOf Tryz.f126 3) (li := liOf (C.fi 126).loops 3) (by kernel_rfl) (by kernel_rfl) (of_decide_eq_true rfl) (by kernel_rfl) (by kernel_rfl) (T := laws_toInt64S.l3.s) (u := laws_toInt64S.l3.u) (fun _ _ h => h) (call := D15) (lp := fun n => noL) (D15_ok hX) (fun n => noL_ok) (fun n v K => by kernel_rfl)
theorem laws_toInt64S_ok : ∀ n v K, laws_toInt64S.u n v K → callM C X0 n 126 (fillA laws_toInt64S.a v) K :=
 call_tell hX (fn := Tryz.f126) (c := bodyOf Tryz.f126) (by kernel_rfl) (by kernel_rfl) (A := laws_toInt64S.a) (u := laws_toInt64S.u) (fun _ _ h => h) (call := D15) (lp := fun n => orL 3 laws_toInt64S.l3.s (laws_toInt64S.l3.u n) noL) (D15_ok hX) (fun n => (orL_ok (laws_toInt64S.l3_ok hX n) noL_ok)) (fun n v K => by kernel_rfl)
def D16 (n : Nat) : CallF := orC 126 laws_toInt64S.a (laws_toInt64S.u n) (D15 n)
theorem D16_ok : ∀ n g a K, D16 n g a K → callM C X0 n g a K := fun n => orC_ok (laws_toInt64S_ok hX n) (D15_ok hX n)
abbrev laws_toTNode.a : List TS := [.a [.o (.int .i64), .o (.int .i64), .o (.int .i64), .o (.int .i64), .o (.int .i64), .o (.dat 115 (.int .u64)), .o (.dat 2 (.int .i64))]]
def laws_toTNode.u (n : Nat) (v : VA laws_toTNode.a) (K : RES → Prop) : Prop := laws_toTNode.c n v.1.1 v.1.2.1 v.1.2.2.1 v.1.2.2.2.1 v.1.2.2.2.2.1 v.1.2.2.2.2.2.1 v.1.2.2.2.2.2.2.1 (fun r0 r1 r2 r3 r4 r5 r6 => K ⟨.agg [.int .i64 r0, .int .i64 r1, .int .i64 r2, .int .i64 r3, .int .i64 r4, .row ⟨115, .int .u64, r5, 99, none⟩, .row ⟨2, .int .i64, r6, 99, none⟩], []⟩)
theorem laws_toTNode_ok : ∀ n v K, laws_toTNode.u n v K → callM C X0 n 107 (fillA laws_toTNode.a v) K :=
 call_tell hX (fn := Tryz.f107) (c := bodyOf Tryz.f107) (by kernel_rfl) (by kernel_rfl) (A := laws_toTNode.a) (u := laws_toTNode.u) (fun _ _ h => h) (call := D16) (lp := fun n => noL) (D16_ok hX) (fun n => noL_ok) (fun n v K => by kernel_rfl)
def D17 (n : Nat) : CallF := orC 107 laws_toTNode.a (laws_toTNode.u n) (D16 n)
theorem D17_ok : ∀ n g a K, D17 n g a K → callM C X0 n g a K := fun n => orC_ok (laws_toTNode_ok hX n) (D16_ok hX n)
abbrev laws_toTNodeS.a : List TS := [.c (.o (.dat 132 (.prod (.int .i64) (.prod (.int .i64) (.prod (.int .i64) (.prod (.int .i64) (.prod (.int .i64) (.prod (.sl 115 (.int .u64)) (.sl 2 (.int .i64))))))))))]
def laws_toTNodeS.u (n : Nat) (v : VA laws_toTNodeS.a) (K : RES → Prop) : Prop := laws_toTNodeS.c n v.1 (fun r0 => K ⟨.c (.row ⟨114, .prod (.int .i64) (.prod (.int .i64) (.prod (.int .i64) (.prod (.int .i64) (.prod (.int .i64) (.prod (.sl 115 (.int .u64)) (.sl 2 (.int .i64))))))), r0, 99, none⟩), []⟩)
abbrev laws_toTNodeS.l3.s : ST := ⟨[(0, .c (.o (.dat 132 (.prod (.int .i64) (.prod (.int .i64) (.prod (.int .i64) (.prod (.int .i64) (.prod (.int .i64) (.prod (.sl 115 (.int .u64)) (.sl 2 (.int .i64))))))))))), (3, .c (.o (.own 224))), (4, .c (.o (.int .i64)))], [⟨224, 114, .prod (.int .i64) (.prod (.int .i64) (.prod (.int .i64) (.prod (.int .i64) (.prod (.int .i64) (.prod (.sl 115 (.int .u64)) (.sl 2 (.int .i64))))))), 99⟩], [], [], []⟩
def laws_toTNodeS.l3.u (n : Nat) (v : laws_toTNodeS.l3.s.V) (K : X → St → Prop) : Prop := laws_toTNodeS.l3 n v.1.1 v.1.2.2.1 v.2.1.1 (fun y0 => K (.exit 0) ⟨[(3, .c (.own 224))], [(224, ⟨114, .prod (.int .i64) (.prod (.int .i64) (.prod (.int .i64) (.prod (.int .i64) (.prod (.int .i64) (.prod (.sl 115 (.int .u64)) (.sl 2 (.int .i64))))))), y0, 99, none⟩)], [], [], []⟩)
theorem laws_toTNodeS.l3_ok : ∀ n v K, laws_toTNodeS.l3.u n v K → loopM C X0 n 88 3 (laws_toTNodeS.l3.s.fill v) K :=
 loop_tell hX (fn := Tryz.f88) (c := bodyOf Tryz.f88) (a := loopOf Tryz.f88 3) (li := liOf (C.fi 88).loops 3) (by kernel_rfl) (by kernel_rfl) (of_decide_eq_true rfl) (by kernel_rfl) (by kernel_rfl) (T := laws_toTNodeS.l3.s) (u := laws_toTNodeS.l3.u) (fun _ _ h => h) (call := D17) (lp := fun n => noL) (D17_ok hX) (fun n => noL_ok) (fun n v K => by kernel_rfl)
theorem laws_toTNodeS_ok : ∀ n v K, laws_toTNodeS.u n v K → callM C X0 n 88 (fillA laws_toTNodeS.a v) K :=
 call_tell hX (fn := Tryz.f88) (c := bodyOf Tryz.f88) (by kernel_rfl) (by kernel_rfl) (A := laws_toTNodeS.a) (u := laws_toTNodeS.u) (fun _ _ h => h) (call := D17) (lp := fun n => orL 3 laws_toTNodeS.l3.s (laws_toTNodeS.l3.u n) noL) (D17_ok hX) (fun n => (orL_ok (laws_toTNodeS.l3_ok hX n) noL_ok)) (fun n v K => by kernel_rfl)
def D18 (n : Nat) : CallF := orC 88 laws_toTNodeS.a (laws_toTNodeS.u n) (D17 n)
theorem D18_ok : ∀ n g a K, D18 n g a K → callM C X0 n g a K := fun n => orC_ok (laws_toTNodeS_ok hX n) (D17_ok hX n)
abbrev laws_toTerm.a : List TS := [.a [.o (.dat 132 (.prod (.int .i64) (.prod (.int .i64) (.prod (.int .i64) (.prod (.int .i64) (.prod (.int .i64) (.prod (.sl 115 (.int .u64)) (.sl 2 (.int .i64)))))))))]]
def laws_toTerm.u (n : Nat) (v : VA laws_toTerm.a) (K : RES → Prop) : Prop := laws_toTerm.c n v.1.1 (fun r0 => K ⟨.agg [.row ⟨114, .prod (.int .i64) (.prod (.int .i64) (.prod (.int .i64) (.prod (.int .i64) (.prod (.int .i64) (.prod (.sl 115 (.int .u64)) (.sl 2 (.int .i64))))))), r0, 99, none⟩], []⟩)
theorem laws_toTerm_ok : ∀ n v K, laws_toTerm.u n v K → callM C X0 n 64 (fillA laws_toTerm.a v) K :=
 call_tell hX (fn := Tryz.f64) (c := bodyOf Tryz.f64) (by kernel_rfl) (by kernel_rfl) (A := laws_toTerm.a) (u := laws_toTerm.u) (fun _ _ h => h) (call := D18) (lp := fun n => noL) (D18_ok hX) (fun n => noL_ok) (fun n v K => by kernel_rfl)
def D19 (n : Nat) : CallF := orC 64 laws_toTerm.a (laws_toTerm.u n) (D18 n)
theorem D19_ok : ∀ n g a K, D19 n g a K → callM C X0 n g a K := fun n => orC_ok (laws_toTerm_ok hX n) (D18_ok hX n)
abbrev laws_toLiteral.a : List TS := [.a [.o (.int .i64), .o .bool, .o (.dat 132 (.prod (.int .i64) (.prod (.int .i64) (.prod (.int .i64) (.prod (.int .i64) (.prod (.int .i64) (.prod (.sl 115 (.int .u64)) (.sl 2 (.int .i64))))))))), .o (.dat 132 (.prod (.int .i64) (.prod (.int .i64) (.prod (.int .i64) (.prod (.int .i64) (.prod (.int .i64) (.prod (.sl 115 (.int .u64)) (.sl 2 (.int .i64)))))))))]]
def laws_toLiteral.u (n : Nat) (v : VA laws_toLiteral.a) (K : RES → Prop) : Prop := laws_toLiteral.c n v.1.1 v.1.2.1 v.1.2.2.1 v.1.2.2.2.1 (fun r0 r1 r2 r3 => K ⟨.agg [.int .i64 r0, .bool r1, .row ⟨114, .prod (.int .i64) (.prod (.int .i64) (.prod (.int .i64) (.prod (.int .i64) (.prod (.int .i64) (.prod (.sl 115 (.int .u64)) (.sl 2 (.int .i64))))))), r2, 99, none⟩, .row ⟨114, .prod (.int .i64) (.prod (.int .i64) (.prod (.int .i64) (.prod (.int .i64) (.prod (.int .i64) (.prod (.sl 115 (.int .u64)) (.sl 2 (.int .i64))))))), r3, 99, none⟩], []⟩)
theorem laws_toLiteral_ok : ∀ n v K, laws_toLiteral.u n v K → callM C X0 n 34 (fillA laws_toLiteral.a v) K :=
 call_tell hX (fn := Tryz.f34) (c := bodyOf Tryz.f34) (by kernel_rfl) (by kernel_rfl) (A := laws_toLiteral.a) (u := laws_toLiteral.u) (fun _ _ h => h) (call := D19) (lp := fun n => noL) (D19_ok hX) (fun n => noL_ok) (fun n v K => by kernel_rfl)
def D20 (n : Nat) : CallF := orC 34 laws_toLiteral.a (laws_toLiteral.u n) (D19 n)
theorem D20_ok : ∀ n g a K, D20 n g a K → callM C X0 n g a K := fun n => orC_ok (laws_toLiteral_ok hX n) (D19_ok hX n)
abbrev laws_toLiteralS.a : List TS := [.c (.o (.dat 59 (.prod (.int .i64) (.prod .bool (.prod (.sl 132 (.prod (.int .i64) (.prod (.int .i64) (.prod (.int .i64) (.prod (.int .i64) (.prod (.int .i64) (.prod (.sl 115 (.int .u64)) (.sl 2 (.int .i64))))))))) (.sl 132 (.prod (.int .i64) (.prod (.int .i64) (.prod (.int .i64) (.prod (.int .i64) (.prod (.int .i64) (.prod (.sl 115 (.int .u64)) (.sl 2 (.int .i64))))))))))))))]
def laws_toLiteralS.u (n : Nat) (v : VA laws_toLiteralS.a) (K : RES → Prop) : Prop := laws_toLiteralS.c n v.1 (fun r0 => K ⟨.c (.row ⟨69, .prod (.int .i64) (.prod .bool (.prod (.sl 114 (.prod (.int .i64) (.prod (.int .i64) (.prod (.int .i64) (.prod (.int .i64) (.prod (.int .i64) (.prod (.sl 115 (.int .u64)) (.sl 2 (.int .i64))))))))) (.sl 114 (.prod (.int .i64) (.prod (.int .i64) (.prod (.int .i64) (.prod (.int .i64) (.prod (.int .i64) (.prod (.sl 115 (.int .u64)) (.sl 2 (.int .i64))))))))))), r0, 99, none⟩), []⟩)
abbrev laws_toLiteralS.l3.s : ST := ⟨[(0, .c (.o (.dat 59 (.prod (.int .i64) (.prod .bool (.prod (.sl 132 (.prod (.int .i64) (.prod (.int .i64) (.prod (.int .i64) (.prod (.int .i64) (.prod (.int .i64) (.prod (.sl 115 (.int .u64)) (.sl 2 (.int .i64))))))))) (.sl 132 (.prod (.int .i64) (.prod (.int .i64) (.prod (.int .i64) (.prod (.int .i64) (.prod (.int .i64) (.prod (.sl 115 (.int .u64)) (.sl 2 (.int .i64))))))))))))))), (3, .c (.o (.own 224))), (4, .c (.o (.int .i64)))], [⟨224, 69, .prod (.int .i64) (.prod .bool (.prod (.sl 114 (.prod (.int .i64) (.prod (.int .i64) (.prod (.int .i64) (.prod (.int .i64) (.prod (.int .i64) (.prod (.sl 115 (.int .u64)) (.sl 2 (.int .i64))))))))) (.sl 114 (.prod (.int .i64) (.prod (.int .i64) (.prod (.int .i64) (.prod (.int .i64) (.prod (.int .i64) (.prod (.sl 115 (.int .u64)) (.sl 2 (.int .i64))))))))))), 99⟩], [], [], []⟩
def laws_toLiteralS.l3.u (n : Nat) (v : laws_toLiteralS.l3.s.V) (K : X → St → Prop) : Prop := laws_toLiteralS.l3 n v.1.1 v.1.2.2.1 v.2.1.1 (fun y0 => K (.exit 0) ⟨[(3, .c (.own 224))], [(224, ⟨69, .prod (.int .i64) (.prod .bool (.prod (.sl 114 (.prod (.int .i64) (.prod (.int .i64) (.prod (.int .i64) (.prod (.int .i64) (.prod (.int .i64) (.prod (.sl 115 (.int .u64)) (.sl 2 (.int .i64))))))))) (.sl 114 (.prod (.int .i64) (.prod (.int .i64) (.prod (.int .i64) (.prod (.int .i64) (.prod (.int .i64) (.prod (.sl 115 (.int .u64)) (.sl 2 (.int .i64))))))))))), y0, 99, none⟩)], [], [], []⟩)
theorem laws_toLiteralS.l3_ok : ∀ n v K, laws_toLiteralS.l3.u n v K → loopM C X0 n 10 3 (laws_toLiteralS.l3.s.fill v) K :=
 loop_tell hX (fn := Tryz.f10) (c := bodyOf Tryz.f10) (a := loopOf Tryz.f10 3) (li := liOf (C.fi 10).loops 3) (by kernel_rfl) (by kernel_rfl) (of_decide_eq_true rfl) (by kernel_rfl) (by kernel_rfl) (T := laws_toLiteralS.l3.s) (u := laws_toLiteralS.l3.u) (fun _ _ h => h) (call := D20) (lp := fun n => noL) (D20_ok hX) (fun n => noL_ok) (fun n v K => by kernel_rfl)
theorem laws_toLiteralS_ok : ∀ n v K, laws_toLiteralS.u n v K → callM C X0 n 10 (fillA laws_toLiteralS.a v) K :=
 call_tell hX (fn := Tryz.f10) (c := bodyOf Tryz.f10) (by kernel_rfl) (by kernel_rfl) (A := laws_toLiteralS.a) (u := laws_toLiteralS.u) (fun _ _ h => h) (call := D20) (lp := fun n => orL 3 laws_toLiteralS.l3.s (laws_toLiteralS.l3.u n) noL) (D20_ok hX) (fun n => (orL_ok (laws_toLiteralS.l3_ok hX n) noL_ok)) (fun n v K => by kernel_rfl)
def D21 (n : Nat) : CallF := orC 10 laws_toLiteralS.a (laws_toLiteralS.u n) (D20 n)
theorem D21_ok : ∀ n g a K, D21 n g a K → callM C X0 n g a K := fun n => orC_ok (laws_toLiteralS_ok hX n) (D20_ok hX n)
abbrev laws_toBitsS.a : List TS := [.c (.o (.dat 79 (.prod (.int .i64) (.sl 115 (.int .u64)))))]
def laws_toBitsS.u (n : Nat) (v : VA laws_toBitsS.a) (K : RES → Prop) : Prop := laws_toBitsS.c n v.1 (fun r0 => K ⟨.c (.row ⟨83, .prod (.int .i64) (.sl 115 (.int .u64)), r0, 99, none⟩), []⟩)
abbrev laws_toBitsS.l3.s : ST := ⟨[(0, .c (.o (.dat 79 (.prod (.int .i64) (.sl 115 (.int .u64)))))), (3, .c (.o (.own 224))), (4, .c (.o (.int .i64)))], [⟨224, 83, .prod (.int .i64) (.sl 115 (.int .u64)), 99⟩], [], [], []⟩
def laws_toBitsS.l3.u (n : Nat) (v : laws_toBitsS.l3.s.V) (K : X → St → Prop) : Prop := laws_toBitsS.l3 n v.1.1 v.1.2.2.1 v.2.1.1 (fun y0 => K (.exit 0) ⟨[(3, .c (.own 224))], [(224, ⟨83, .prod (.int .i64) (.sl 115 (.int .u64)), y0, 99, none⟩)], [], [], []⟩)
theorem laws_toBitsS.l3_ok : ∀ n v K, laws_toBitsS.l3.u n v K → loopM C X0 n 16 3 (laws_toBitsS.l3.s.fill v) K :=
 loop_tell hX (fn := Tryz.f16) (c := bodyOf Tryz.f16) (a := loopOf Tryz.f16 3) (li := liOf (C.fi 16).loops 3) (by kernel_rfl) (by kernel_rfl) (of_decide_eq_true rfl) (by kernel_rfl) (by kernel_rfl) (T := laws_toBitsS.l3.s) (u := laws_toBitsS.l3.u) (fun _ _ h => h) (call := D21) (lp := fun n => noL) (D21_ok hX) (fun n => noL_ok) (fun n v K => by kernel_rfl)
theorem laws_toBitsS_ok : ∀ n v K, laws_toBitsS.u n v K → callM C X0 n 16 (fillA laws_toBitsS.a v) K :=
 call_tell hX (fn := Tryz.f16) (c := bodyOf Tryz.f16) (by kernel_rfl) (by kernel_rfl) (A := laws_toBitsS.a) (u := laws_toBitsS.u) (fun _ _ h => h) (call := D21) (lp := fun n => orL 3 laws_toBitsS.l3.s (laws_toBitsS.l3.u n) noL) (D21_ok hX) (fun n => (orL_ok (laws_toBitsS.l3_ok hX n) noL_ok)) (fun n v K => by kernel_rfl)
def D22 (n : Nat) : CallF := orC 16 laws_toBitsS.a (laws_toBitsS.u n) (D21 n)
theorem D22_ok : ∀ n g a K, D22 n g a K → callM C X0 n g a K := fun n => orC_ok (laws_toBitsS_ok hX n) (D21_ok hX n)
abbrev spec_l1Digit.a : List TS := [.c (.o (.int .u8))]
def spec_l1Digit.u (n : Nat) (v : VA spec_l1Digit.a) (K : RES → Prop) : Prop := spec_l1Digit.c n v.1 (fun r0 => K ⟨.c (.bool r0), []⟩)
theorem spec_l1Digit_ok : ∀ n v K, spec_l1Digit.u n v K → callM C X0 n 109 (fillA spec_l1Digit.a v) K :=
 call_tell hX (fn := Tryz.f109) (c := bodyOf Tryz.f109) (by kernel_rfl) (by kernel_rfl) (A := spec_l1Digit.a) (u := spec_l1Digit.u) (fun _ _ h => h) (call := D22) (lp := fun n => noL) (D22_ok hX) (fun n => noL_ok) (fun n v K => by kernel_rfl)
def D23 (n : Nat) : CallF := orC 109 spec_l1Digit.a (spec_l1Digit.u n) (D22 n)
theorem D23_ok : ∀ n g a K, D23 n g a K → callM C X0 n g a K := fun n => orC_ok (spec_l1Digit_ok hX n) (D22_ok hX n)
abbrev spec_l1Name.a : List TS := [.c (.o .str)]
def spec_l1Name.u (n : Nat) (v : VA spec_l1Name.a) (K : RES → Prop) : Prop := spec_l1Name.c n v.1 (fun r0 => K ⟨.c (.bool r0), []⟩)
abbrev spec_l1Name.l4.s : ST := ⟨[(0, .c (.o .str)), (3, .c (.o (.int .i64)))], [], [], [], []⟩
def spec_l1Name.l4.u (n : Nat) (v : spec_l1Name.l4.s.V) (K : X → St → Prop) : Prop := spec_l1Name.l4 n v.1.1 v.1.2.1 (K (.exit 0) ⟨[], [], [], [], []⟩) (fun y0 => K .ret ⟨[(2, .c (.bool y0))], [], [], [], []⟩)
theorem spec_l1Name.l4_ok : ∀ n v K, spec_l1Name.l4.u n v K → loopM C X0 n 90 4 (spec_l1Name.l4.s.fill v) K :=
 loop_tell hX (fn := Tryz.f90) (c := bodyOf Tryz.f90) (a := loopOf Tryz.f90 4) (li := liOf (C.fi 90).loops 4) (by kernel_rfl) (by kernel_rfl) (of_decide_eq_true rfl) (by kernel_rfl) (by kernel_rfl) (T := spec_l1Name.l4.s) (u := spec_l1Name.l4.u) (fun _ _ h => h) (call := D23) (lp := fun n => noL) (D23_ok hX) (fun n => noL_ok) (fun n v K => by kernel_rfl)
theorem spec_l1Name_ok : ∀ n v K, spec_l1Name.u n v K → callM C X0 n 90 (fillA spec_l1Name.a v) K :=
 call_tell hX (fn := Tryz.f90) (c := bodyOf Tryz.f90) (by kernel_rfl) (by kernel_rfl) (A := spec_l1Name.a) (u := spec_l1Name.u) (fun _ _ h => h) (call := D23) (lp := fun n => orL 4 spec_l1Name.l4.s (spec_l1Name.l4.u n) noL) (D23_ok hX) (fun n => (orL_ok (spec_l1Name.l4_ok hX n) noL_ok)) (fun n v K => by kernel_rfl)
def D24 (n : Nat) : CallF := orC 90 spec_l1Name.a (spec_l1Name.u n) (D23 n)
theorem D24_ok : ∀ n g a K, D24 n g a K → callM C X0 n g a K := fun n => orC_ok (spec_l1Name_ok hX n) (D23_ok hX n)
abbrev spec_l1In.a : List TS := [.c (.o (.int .i64)), .c (.o (.int .i64)), .c (.o (.int .i64))]
def spec_l1In.u (n : Nat) (v : VA spec_l1In.a) (K : RES → Prop) : Prop := spec_l1In.c n v.1 v.2.1 v.2.2.1 (fun r0 => K ⟨.c (.bool r0), []⟩)
theorem spec_l1In_ok : ∀ n v K, spec_l1In.u n v K → callM C X0 n 74 (fillA spec_l1In.a v) K :=
 call_tell hX (fn := Tryz.f74) (c := bodyOf Tryz.f74) (by kernel_rfl) (by kernel_rfl) (A := spec_l1In.a) (u := spec_l1In.u) (fun _ _ h => h) (call := D24) (lp := fun n => noL) (D24_ok hX) (fun n => noL_ok) (fun n v K => by kernel_rfl)
def D25 (n : Nat) : CallF := orC 74 spec_l1In.a (spec_l1In.u n) (D24 n)
theorem D25_ok : ∀ n g a K, D25 n g a K → callM C X0 n g a K := fun n => orC_ok (spec_l1In_ok hX n) (D24_ok hX n)
abbrev spec_DeclsOk.a : List TS := [.c (.o (.dat 63 (.prod .str (.int .i64))))]
def spec_DeclsOk.u (n : Nat) (v : VA spec_DeclsOk.a) (K : RES → Prop) : Prop := spec_DeclsOk.c n v.1 (fun r0 => K ⟨.c (.bool r0), []⟩)
abbrev spec_DeclsOk.l10.s : ST := ⟨[(0, .c (.o (.dat 63 (.prod .str (.int .i64))))), (3, .c (.o (.int .i64))), (4, .c (.o (.int .i64))), (5, .c (.o (.int .i64)))], [], [], [], []⟩
def spec_DeclsOk.l10.u (n : Nat) (v : spec_DeclsOk.l10.s.V) (K : X → St → Prop) : Prop := spec_DeclsOk.l10 n v.1.1 v.1.2.1 v.1.2.2.1 v.1.2.2.2.1 (fun y0 y1 y2 => K (.exit 2) ⟨[(0, .c (.dat 63 (.prod .str (.int .i64)) y0)), (3, .c (.int .i64 y1)), (4, .c (.int .i64 y2))], [], [], [], []⟩) (fun y0 => K .ret ⟨[(2, .c (.bool y0))], [], [], [], []⟩)
abbrev spec_DeclsOk.l5.s : ST := ⟨[(0, .c (.o (.dat 63 (.prod .str (.int .i64))))), (3, .c (.o (.int .i64))), (4, .c (.o (.int .i64)))], [], [], [], []⟩
def spec_DeclsOk.l5.u (n : Nat) (v : spec_DeclsOk.l5.s.V) (K : X → St → Prop) : Prop := spec_DeclsOk.l5 n v.1.1 v.1.2.1 v.1.2.2.1 (fun y0 => K (.exit 0) ⟨[(3, .c (.int .i64 y0))], [], [], [], []⟩) (fun y0 => K .ret ⟨[(2, .c (.bool y0))], [], [], [], []⟩)
theorem spec_DeclsOk.l10_ok : ∀ n v K, spec_DeclsOk.l10.u n v K → loopM C X0 n 71 10 (spec_DeclsOk.l10.s.fill v) K :=
 loop_tell hX (fn := Tryz.f71) (c := bodyOf Tryz.f71) (a := loopOf Tryz.f71 10) (li := liOf (C.fi 71).loops 10) (by kernel_rfl) (by kernel_rfl) (of_decide_eq_true rfl) (by kernel_rfl) (by kernel_rfl) (T := spec_DeclsOk.l10.s) (u := spec_DeclsOk.l10.u) (fun _ _ h => h) (call := D25) (lp := fun n => noL) (D25_ok hX) (fun n => noL_ok) (fun n v K => by kernel_rfl)
theorem spec_DeclsOk.l5_ok : ∀ n v K, spec_DeclsOk.l5.u n v K → loopM C X0 n 71 5 (spec_DeclsOk.l5.s.fill v) K :=
 loop_tell hX (fn := Tryz.f71) (c := bodyOf Tryz.f71) (a := loopOf Tryz.f71 5) (li := liOf (C.fi 71).loops 5) (by kernel_rfl) (by kernel_rfl) (of_decide_eq_true rfl) (by kernel_rfl) (by kernel_rfl) (T := spec_DeclsOk.l5.s) (u := spec_DeclsOk.l5.u) (fun _ _ h => h) (call := D25) (lp := fun n => orL 10 spec_DeclsOk.l10.s (spec_DeclsOk.l10.u n) noL) (D25_ok hX) (fun n => (orL_ok (spec_DeclsOk.l10_ok hX n) noL_ok)) (fun n v K => by kernel_rfl)
theorem spec_DeclsOk_ok : ∀ n v K, spec_DeclsOk.u n v K → callM C X0 n 71 (fillA spec_DeclsOk.a v) K :=
 call_tell hX (fn := Tryz.f71) (c := bodyOf Tryz.f71) (by kernel_rfl) (by kernel_rfl) (A := spec_DeclsOk.a) (u := spec_DeclsOk.u) (fun _ _ h => h) (call := D25) (lp := fun n => orL 5 spec_DeclsOk.l5.s (spec_DeclsOk.l5.u n) noL) (D25_ok hX) (fun n => (orL_ok (spec_DeclsOk.l5_ok hX n) noL_ok)) (fun n v K => by kernel_rfl)
def D26 (n : Nat) : CallF := orC 71 spec_DeclsOk.a (spec_DeclsOk.u n) (D25 n)
theorem D26_ok : ∀ n g a K, D26 n g a K → callM C X0 n g a K := fun n => orC_ok (spec_DeclsOk_ok hX n) (D25_ok hX n)
abbrev spec_l1Bit.a : List TS := [.a [.o (.int .i64), .o (.dat 115 (.int .u64))], .c (.o (.int .i64))]
def spec_l1Bit.u (n : Nat) (v : VA spec_l1Bit.a) (K : RES → Prop) : Prop := spec_l1Bit.c n v.1.1 v.1.2.1 v.2.1 (fun r0 => K ⟨.c (.int .u8 r0), []⟩)
theorem spec_l1Bit_ok : ∀ n v K, spec_l1Bit.u n v K → callM C X0 n 91 (fillA spec_l1Bit.a v) K :=
 call_tell hX (fn := Tryz.f91) (c := bodyOf Tryz.f91) (by kernel_rfl) (by kernel_rfl) (A := spec_l1Bit.a) (u := spec_l1Bit.u) (fun _ _ h => h) (call := D26) (lp := fun n => noL) (D26_ok hX) (fun n => noL_ok) (fun n v K => by kernel_rfl)
def D27 (n : Nat) : CallF := orC 91 spec_l1Bit.a (spec_l1Bit.u n) (D26 n)
theorem D27_ok : ∀ n g a K, D27 n g a K → callM C X0 n g a K := fun n => orC_ok (spec_l1Bit_ok hX n) (D26_ok hX n)
abbrev spec_BitsOk.a : List TS := [.a [.o (.int .i64), .o (.dat 115 (.int .u64))]]
def spec_BitsOk.u (n : Nat) (v : VA spec_BitsOk.a) (K : RES → Prop) : Prop := spec_BitsOk.c n v.1.1 v.1.2.1 (fun r0 => K ⟨.c (.bool r0), []⟩)
abbrev spec_BitsOk.l4.s : ST := ⟨[(1, .c (.o (.pbox 1 0))), (3, .c (.o (.int .i64)))], [], [⟨1, 83, [.o (.int .i64), .o (.dat 115 (.int .u64))], false⟩], [], []⟩
def spec_BitsOk.l4.u (n : Nat) (v : spec_BitsOk.l4.s.V) (K : X → St → Prop) : Prop := spec_BitsOk.l4 n v.2.2.1.1 v.2.2.1.2.1 v.1.2.1 (K (.exit 0) ⟨[], [], [], [], []⟩) (fun y0 => K .ret ⟨[(2, .c (.bool y0))], [], [], [], []⟩)
theorem spec_BitsOk.l4_ok : ∀ n v K, spec_BitsOk.l4.u n v K → loopM C X0 n 72 4 (spec_BitsOk.l4.s.fill v) K :=
 loop_tell hX (fn := Tryz.f72) (c := bodyOf Tryz.f72) (a := loopOf Tryz.f72 4) (li := liOf (C.fi 72).loops 4) (by kernel_rfl) (by kernel_rfl) (of_decide_eq_true rfl) (by kernel_rfl) (by kernel_rfl) (T := spec_BitsOk.l4.s) (u := spec_BitsOk.l4.u) (fun _ _ h => h) (call := D27) (lp := fun n => noL) (D27_ok hX) (fun n => noL_ok) (fun n v K => by kernel_rfl)
theorem spec_BitsOk_ok : ∀ n v K, spec_BitsOk.u n v K → callM C X0 n 72 (fillA spec_BitsOk.a v) K :=
 call_tell hX (fn := Tryz.f72) (c := bodyOf Tryz.f72) (by kernel_rfl) (by kernel_rfl) (A := spec_BitsOk.a) (u := spec_BitsOk.u) (fun _ _ h => h) (call := D27) (lp := fun n => orL 4 spec_BitsOk.l4.s (spec_BitsOk.l4.u n) noL) (D27_ok hX) (fun n => (orL_ok (spec_BitsOk.l4_ok hX n) noL_ok)) (fun n v K => by kernel_rfl)
def D28 (n : Nat) : CallF := orC 72 spec_BitsOk.a (spec_BitsOk.u n) (D27 n)
theorem D28_ok : ∀ n g a K, D28 n g a K → callM C X0 n g a K := fun n => orC_ok (spec_BitsOk_ok hX n) (D27_ok hX n)
abbrev spec_ValuesOk.a : List TS := [.c (.o (.dat 63 (.prod .str (.int .i64)))), .c (.o (.dat 83 (.prod (.int .i64) (.sl 115 (.int .u64)))))]
def spec_ValuesOk.u (n : Nat) (v : VA spec_ValuesOk.a) (K : RES → Prop) : Prop := spec_ValuesOk.c n v.1 v.2.1 (fun r0 => K ⟨.c (.bool r0), []⟩)
abbrev spec_ValuesOk.l4.s : ST := ⟨[(0, .c (.o (.dat 63 (.prod .str (.int .i64))))), (1, .c (.o (.dat 83 (.prod (.int .i64) (.sl 115 (.int .u64)))))), (5, .c (.o (.int .i64)))], [], [], [], []⟩
def spec_ValuesOk.l4.u (n : Nat) (v : spec_ValuesOk.l4.s.V) (K : X → St → Prop) : Prop := spec_ValuesOk.l4 n v.1.1 v.1.2.1 v.1.2.2.1 (K (.exit 0) ⟨[], [], [], [], []⟩) (fun y0 => K .ret ⟨[(4, .c (.bool y0))], [], [], [], []⟩)
theorem spec_ValuesOk.l4_ok : ∀ n v K, spec_ValuesOk.l4.u n v K → loopM C X0 n 41 4 (spec_ValuesOk.l4.s.fill v) K :=
 loop_tell hX (fn := Tryz.f41) (c := bodyOf Tryz.f41) (a := loopOf Tryz.f41 4) (li := liOf (C.fi 41).loops 4) (by kernel_rfl) (by kernel_rfl) (of_decide_eq_true rfl) (by kernel_rfl) (by kernel_rfl) (T := spec_ValuesOk.l4.s) (u := spec_ValuesOk.l4.u) (fun _ _ h => h) (call := D28) (lp := fun n => noL) (D28_ok hX) (fun n => noL_ok) (fun n v K => by kernel_rfl)
theorem spec_ValuesOk_ok : ∀ n v K, spec_ValuesOk.u n v K → callM C X0 n 41 (fillA spec_ValuesOk.a v) K :=
 call_tell hX (fn := Tryz.f41) (c := bodyOf Tryz.f41) (by kernel_rfl) (by kernel_rfl) (A := spec_ValuesOk.a) (u := spec_ValuesOk.u) (fun _ _ h => h) (call := D28) (lp := fun n => orL 4 spec_ValuesOk.l4.s (spec_ValuesOk.l4.u n) noL) (D28_ok hX) (fun n => (orL_ok (spec_ValuesOk.l4_ok hX n) noL_ok)) (fun n v K => by kernel_rfl)
def D29 (n : Nat) : CallF := orC 41 spec_ValuesOk.a (spec_ValuesOk.u n) (D28 n)
theorem D29_ok : ∀ n g a K, D29 n g a K → callM C X0 n g a K := fun n => orC_ok (spec_ValuesOk_ok hX n) (D28_ok hX n)
abbrev spec_l3NoBits.a : List TS := [.a [.o (.int .i64), .o (.dat 115 (.int .u64))]]
def spec_l3NoBits.u (n : Nat) (v : VA spec_l3NoBits.a) (K : RES → Prop) : Prop := spec_l3NoBits.c n v.1.1 v.1.2.1 (fun r0 => K ⟨.c (.bool r0), []⟩)
theorem spec_l3NoBits_ok : ∀ n v K, spec_l3NoBits.u n v K → callM C X0 n 127 (fillA spec_l3NoBits.a v) K :=
 call_tell hX (fn := Tryz.f127) (c := bodyOf Tryz.f127) (by kernel_rfl) (by kernel_rfl) (A := spec_l3NoBits.a) (u := spec_l3NoBits.u) (fun _ _ h => h) (call := D29) (lp := fun n => noL) (D29_ok hX) (fun n => noL_ok) (fun n v K => by kernel_rfl)
def D30 (n : Nat) : CallF := orC 127 spec_l3NoBits.a (spec_l3NoBits.u n) (D29 n)
theorem D30_ok : ∀ n g a K, D30 n g a K → callM C X0 n g a K := fun n => orC_ok (spec_l3NoBits_ok hX n) (D29_ok hX n)
abbrev spec_l3One.a : List TS := [.c (.o (.int .i64))]
def spec_l3One.u (n : Nat) (v : VA spec_l3One.a) (K : RES → Prop) : Prop := spec_l3One.c n v.1 (fun r0 => K ⟨.c (.bool r0), []⟩)
theorem spec_l3One_ok : ∀ n v K, spec_l3One.u n v K → callM C X0 n 128 (fillA spec_l3One.a v) K :=
 call_tell hX (fn := Tryz.f128) (c := bodyOf Tryz.f128) (by kernel_rfl) (by kernel_rfl) (A := spec_l3One.a) (u := spec_l3One.u) (fun _ _ h => h) (call := D30) (lp := fun n => noL) (D30_ok hX) (fun n => noL_ok) (fun n v K => by kernel_rfl)
def D31 (n : Nat) : CallF := orC 128 spec_l3One.a (spec_l3One.u n) (D30 n)
theorem D31_ok : ∀ n g a K, D31 n g a K → callM C X0 n g a K := fun n => orC_ok (spec_l3One_ok hX n) (D30_ok hX n)
abbrev spec_l3Form.a : List TS := [.c (.o (.dat 63 (.prod .str (.int .i64)))), .a [.o (.int .i64), .o (.int .i64), .o (.int .i64), .o (.int .i64), .o (.int .i64), .o (.dat 115 (.int .u64)), .o (.dat 2 (.int .i64))], .c (.o (.int .i64))]
def spec_l3Form.u (n : Nat) (v : VA spec_l3Form.a) (K : RES → Prop) : Prop := spec_l3Form.c n v.1 v.2.1.1 v.2.1.2.1 v.2.1.2.2.1 v.2.1.2.2.2.1 v.2.1.2.2.2.2.1 v.2.1.2.2.2.2.2.1 v.2.1.2.2.2.2.2.2.1 v.2.2.1 (fun r0 => K ⟨.c (.bool r0), []⟩)
abbrev spec_l3Form.l2.s : ST := ⟨[(0, .c (.o (.dat 63 (.prod .str (.int .i64))))), (2, .c (.o (.int .i64))), (4, .c (.o (.pbox 4 0))), (7, .c (.o (.int .i64)))], [], [⟨4, 114, [.o (.int .i64), .o (.int .i64), .o (.int .i64), .o (.int .i64), .o (.int .i64), .o (.dat 115 (.int .u64)), .o (.dat 2 (.int .i64))], false⟩], [], []⟩
def spec_l3Form.l2.u (n : Nat) (v : spec_l3Form.l2.s.V) (K : X → St → Prop) : Prop := spec_l3Form.l2 n v.1.1 v.1.2.1 v.2.2.1.1 v.2.2.1.2.1 v.2.2.1.2.2.1 v.2.2.1.2.2.2.1 v.2.2.1.2.2.2.2.1 v.2.2.1.2.2.2.2.2.1 v.2.2.1.2.2.2.2.2.2.1 v.1.2.2.2.1 (fun y0 y1 y2 y3 y4 y5 y6 y7 => K (.exit 0) ⟨[(0, .c (.dat 63 (.prod .str (.int .i64)) y0)), (4, .c (.pbox 4 0))], [], [(4, ⟨114, [.int .i64 y1, .int .i64 y2, .int .i64 y3, .int .i64 y4, .int .i64 y5, .dat 115 (.int .u64) y6, .dat 2 (.int .i64) y7], false⟩)], [], []⟩) (fun y0 => K .ret ⟨[(6, .c (.bool y0))], [], [], [], []⟩)
abbrev spec_l3Form.q7.s : ST := ⟨[(0, .c (.o (.dat 63 (.prod .str (.int .i64))))), (4, .c (.o (.pbox 4 0))), (63, .c (.o .bool))], [], [⟨4, 114, [.o (.int .i64), .o (.int .i64), .o (.int .i64), .o (.int .i64), .o (.int .i64), .o (.dat 115 (.int .u64)), .o (.dat 2 (.int .i64))], false⟩], [], []⟩
def spec_l3Form.q7.u (n : Nat) (v : spec_l3Form.q7.s.V) (K : X → St → Prop) : Prop := spec_l3Form.q7 n v.1.1 v.1.2.2.1 v.2.2.1.1 v.2.2.1.2.1 v.2.2.1.2.2.1 v.2.2.1.2.2.2.1 v.2.2.1.2.2.2.2.1 v.2.2.1.2.2.2.2.2.1 v.2.2.1.2.2.2.2.2.2.1 (fun y0 => K .ret ⟨[(6, .c (.bool y0))], [], [], [], []⟩) (fun y0 y1 y2 y3 y4 y5 y6 y7 => K .normal ⟨[(0, .c (.dat 63 (.prod .str (.int .i64)) y0)), (4, .c (.pbox 4 0))], [], [(4, ⟨114, [.int .i64 y1, .int .i64 y2, .int .i64 y3, .int .i64 y4, .int .i64 y5, .dat 115 (.int .u64) y6, .dat 2 (.int .i64) y7], false⟩)], [], []⟩)
abbrev spec_l3Form.q8.s : ST := ⟨[(0, .c (.o (.dat 63 (.prod .str (.int .i64))))), (4, .c (.o (.pbox 4 0)))], [], [⟨4, 114, [.o (.int .i64), .o (.int .i64), .o (.int .i64), .o (.int .i64), .o (.int .i64), .o (.dat 115 (.int .u64)), .o (.dat 2 (.int .i64))], false⟩], [], []⟩
def spec_l3Form.q8.u (n : Nat) (v : spec_l3Form.q8.s.V) (K : X → St → Prop) : Prop := spec_l3Form.q8 n v.1.1 v.2.2.1.1 v.2.2.1.2.1 v.2.2.1.2.2.1 v.2.2.1.2.2.2.1 v.2.2.1.2.2.2.2.1 v.2.2.1.2.2.2.2.2.1 v.2.2.1.2.2.2.2.2.2.1 (fun y0 => K .ret ⟨[(6, .c (.bool y0))], [], [], [], []⟩)
theorem spec_l3Form.l2_ok : ∀ n v K, spec_l3Form.l2.u n v K → loopM C X0 n 110 2 (spec_l3Form.l2.s.fill v) K :=
 loop_tell hX (fn := Tryz.f110) (c := bodyOf Tryz.f110) (a := loopOf Tryz.f110 2) (li := liOf (C.fi 110).loops 2) (by kernel_rfl) (by kernel_rfl) (of_decide_eq_true rfl) (by kernel_rfl) (by kernel_rfl) (T := spec_l3Form.l2.s) (u := spec_l3Form.l2.u) (fun _ _ h => h) (call := D31) (lp := fun n => noL) (D31_ok hX) (fun n => noL_ok) (fun n v K => by kernel_rfl)
theorem spec_l3Form.q7_ok : ∀ n v K, spec_l3Form.q7.u n v K → loopM C X0 n 110 1000007 (spec_l3Form.q7.s.fill v) K :=
 cut_tell hX (fn := Tryz.f110) (c := bodyOf Tryz.f110) (a := cutOf Tryz.f110 7) (li := liOf (C.fi 110).loops 1000007) (by kernel_rfl) (by kernel_rfl) (of_decide_eq_true rfl) (by kernel_rfl) (by kernel_rfl) (T := spec_l3Form.q7.s) (u := spec_l3Form.q7.u) (fun _ _ h => h) (call := D31) (lp := fun n => noL) (D31_ok hX) (fun n => noL_ok) (fun n v K => by kernel_rfl)
theorem spec_l3Form.q8_ok : ∀ n v K, spec_l3Form.q8.u n v K → loopM C X0 n 110 1000008 (spec_l3Form.q8.s.fill v) K :=
 cut_tell hX (fn := Tryz.f110) (c := bodyOf Tryz.f110) (a := cutOf Tryz.f110 8) (li := liOf (C.fi 110).loops 1000008) (by kernel_rfl) (by kernel_rfl) (of_decide_eq_true rfl) (by kernel_rfl) (by kernel_rfl) (T := spec_l3Form.q8.s) (u := spec_l3Form.q8.u) (fun _ _ h => h) (call := D31) (lp := fun n => noL) (D31_ok hX) (fun n => noL_ok) (fun n v K => by kernel_rfl)
theorem spec_l3Form_ok : ∀ n v K, spec_l3Form.u n v K → callM C X0 n 110 (fillA spec_l3Form.a v) K :=
 call_tell hX (fn := Tryz.f110) (c := bodyOf Tryz.f110) (by kernel_rfl) (by kernel_rfl) (A := spec_l3Form.a) (u := spec_l3Form.u) (fun _ _ h => h) (call := D31) (lp := fun n => orL 2 spec_l3Form.l2.s (spec_l3Form.l2.u n) (orL 1000007 spec_l3Form.q7.s (spec_l3Form.q7.u n) (orL 1000008 spec_l3Form.q8.s (spec_l3Form.q8.u n) noL))) (D31_ok hX) (fun n => (orL_ok (spec_l3Form.l2_ok hX n) (orL_ok (spec_l3Form.q7_ok hX n) (orL_ok (spec_l3Form.q8_ok hX n) noL_ok)))) (fun n v K => by kernel_rfl)
def D32 (n : Nat) : CallF := orC 110 spec_l3Form.a (spec_l3Form.u n) (D31 n)
theorem D32_ok : ∀ n g a K, D32 n g a K → callM C X0 n g a K := fun n => orC_ok (spec_l3Form_ok hX n) (D31_ok hX n)
abbrev spec_l3Wide.a : List TS := [.c (.o (.dat 63 (.prod .str (.int .i64)))), .a [.o (.int .i64), .o (.int .i64), .o (.int .i64), .o (.int .i64), .o (.int .i64), .o (.dat 115 (.int .u64)), .o (.dat 2 (.int .i64))], .c (.o (.dat 2 (.int .i64)))]
def spec_l3Wide.u (n : Nat) (v : VA spec_l3Wide.a) (K : RES → Prop) : Prop := spec_l3Wide.c n v.1 v.2.1.1 v.2.1.2.1 v.2.1.2.2.1 v.2.1.2.2.2.1 v.2.1.2.2.2.2.1 v.2.1.2.2.2.2.2.1 v.2.1.2.2.2.2.2.2.1 v.2.2.1 (fun r0 => K ⟨.c (.int .i64 r0), []⟩)
abbrev spec_l3Wide.l3.s : ST := ⟨[(0, .c (.o (.dat 63 (.prod .str (.int .i64))))), (2, .c (.o (.dat 2 (.int .i64)))), (4, .c (.o (.pbox 4 0))), (7, .c (.o (.int .i64))), (8, .c (.o (.int .i64)))], [], [⟨4, 114, [.o (.int .i64), .o (.int .i64), .o (.int .i64), .o (.int .i64), .o (.int .i64), .o (.dat 115 (.int .u64)), .o (.dat 2 (.int .i64))], false⟩], [], []⟩
def spec_l3Wide.l3.u (n : Nat) (v : spec_l3Wide.l3.s.V) (K : X → St → Prop) : Prop := spec_l3Wide.l3 n v.1.1 v.1.2.1 v.2.2.1.1 v.2.2.1.2.1 v.2.2.1.2.2.1 v.2.2.1.2.2.2.1 v.2.2.1.2.2.2.2.1 v.2.2.1.2.2.2.2.2.1 v.2.2.1.2.2.2.2.2.2.1 v.1.2.2.2.1 v.1.2.2.2.2.1 (fun y0 y1 y2 y3 y4 y5 y6 y7 y8 => K (.exit 0) ⟨[(0, .c (.dat 63 (.prod .str (.int .i64)) y0)), (4, .c (.pbox 4 0)), (7, .c (.int .i64 y1))], [], [(4, ⟨114, [.int .i64 y2, .int .i64 y3, .int .i64 y4, .int .i64 y5, .int .i64 y6, .dat 115 (.int .u64) y7, .dat 2 (.int .i64) y8], false⟩)], [], []⟩)
theorem spec_l3Wide.l3_ok : ∀ n v K, spec_l3Wide.l3.u n v K → loopM C X0 n 111 3 (spec_l3Wide.l3.s.fill v) K :=
 loop_tell hX (fn := Tryz.f111) (c := bodyOf Tryz.f111) (a := loopOf Tryz.f111 3) (li := liOf (C.fi 111).loops 3) (by kernel_rfl) (by kernel_rfl) (of_decide_eq_true rfl) (by kernel_rfl) (by kernel_rfl) (T := spec_l3Wide.l3.s) (u := spec_l3Wide.l3.u) (fun _ _ h => h) (call := D32) (lp := fun n => noL) (D32_ok hX) (fun n => noL_ok) (fun n v K => by kernel_rfl)
theorem spec_l3Wide_ok : ∀ n v K, spec_l3Wide.u n v K → callM C X0 n 111 (fillA spec_l3Wide.a v) K :=
 call_tell hX (fn := Tryz.f111) (c := bodyOf Tryz.f111) (by kernel_rfl) (by kernel_rfl) (A := spec_l3Wide.a) (u := spec_l3Wide.u) (fun _ _ h => h) (call := D32) (lp := fun n => orL 3 spec_l3Wide.l3.s (spec_l3Wide.l3.u n) noL) (D32_ok hX) (fun n => (orL_ok (spec_l3Wide.l3_ok hX n) noL_ok)) (fun n v K => by kernel_rfl)
def D33 (n : Nat) : CallF := orC 111 spec_l3Wide.a (spec_l3Wide.u n) (D32 n)
theorem D33_ok : ∀ n g a K, D33 n g a K → callM C X0 n g a K := fun n => orC_ok (spec_l3Wide_ok hX n) (D32_ok hX n)
abbrev spec_l3Widths.a : List TS := [.c (.o (.dat 63 (.prod .str (.int .i64)))), .a [.o (.dat 114 (.prod (.int .i64) (.prod (.int .i64) (.prod (.int .i64) (.prod (.int .i64) (.prod (.int .i64) (.prod (.sl 115 (.int .u64)) (.sl 2 (.int .i64)))))))))]]
def spec_l3Widths.u (n : Nat) (v : VA spec_l3Widths.a) (K : RES → Prop) : Prop := spec_l3Widths.c n v.1 v.2.1.1 (fun r0 => K ⟨.c (.row ⟨2, .int .i64, r0, 99, none⟩), []⟩)
abbrev spec_l3Widths.l16.s : ST := ⟨[(0, .c (.o (.dat 63 (.prod .str (.int .i64))))), (3, .c (.o (.pbox 3 0))), (5, .c (.o (.own 384))), (6, .c (.o (.own 2112))), (7, .c (.o (.own 1056))), (8, .c (.o (.int .i64))), (10, .c (.o (.int .i64)))], [⟨384, 2, .int .i64, 99⟩, ⟨1056, 4, .bool, 99⟩, ⟨2112, 2, .int .i64, 99⟩], [⟨3, 67, [.o (.dat 114 (.prod (.int .i64) (.prod (.int .i64) (.prod (.int .i64) (.prod (.int .i64) (.prod (.int .i64) (.prod (.sl 115 (.int .u64)) (.sl 2 (.int .i64)))))))))], false⟩], [], []⟩
def spec_l3Widths.l16.u (n : Nat) (v : spec_l3Widths.l16.s.V) (K : X → St → Prop) : Prop := spec_l3Widths.l16 n v.1.1 v.1.2.2.2.2.2.1 v.2.1.1 v.2.1.2.2.1 v.2.2.1.1 v.1.2.2.2.2.2.2.1 v.2.1.2.1 (fun y0 y1 y2 y3 y4 y5 => K (.exit 2) ⟨[(0, .c (.dat 63 (.prod .str (.int .i64)) y0)), (3, .c (.pbox 3 0)), (5, .c (.own 384)), (6, .c (.own 2112)), (7, .c (.own 1056)), (8, .c (.int .i64 y1))], [(384, ⟨2, .int .i64, y2, 99, none⟩), (1056, ⟨4, .bool, y3, 99, none⟩), (2112, ⟨2, .int .i64, y4, 99, none⟩)], [(3, ⟨67, [.dat 114 (.prod (.int .i64) (.prod (.int .i64) (.prod (.int .i64) (.prod (.int .i64) (.prod (.int .i64) (.prod (.sl 115 (.int .u64)) (.sl 2 (.int .i64)))))))) y5], false⟩)], [], []⟩)
abbrev spec_l3Widths.l7.s : ST := ⟨[(0, .c (.o (.dat 63 (.prod .str (.int .i64))))), (3, .c (.o (.pbox 3 0))), (5, .c (.o (.own 384))), (6, .c (.o (.own 192))), (7, .c (.o (.own 1056))), (8, .c (.o (.int .i64)))], [⟨192, 2, .int .i64, 99⟩, ⟨384, 2, .int .i64, 99⟩, ⟨1056, 4, .bool, 99⟩], [⟨3, 67, [.o (.dat 114 (.prod (.int .i64) (.prod (.int .i64) (.prod (.int .i64) (.prod (.int .i64) (.prod (.int .i64) (.prod (.sl 115 (.int .u64)) (.sl 2 (.int .i64)))))))))], false⟩], [], []⟩
def spec_l3Widths.l7.u (n : Nat) (v : spec_l3Widths.l7.s.V) (K : X → St → Prop) : Prop := spec_l3Widths.l7 n v.1.1 v.1.2.2.2.2.2.1 v.2.1.1 v.2.1.2.1 v.2.1.2.2.1 v.2.2.1.1 (fun y0 y1 y2 => K (.exit 0) ⟨[(5, .c (.own 384)), (6, .c (.own 192)), (7, .c (.own 1056))], [(192, ⟨2, .int .i64, y0, 99, none⟩), (384, ⟨2, .int .i64, y1, 99, none⟩), (1056, ⟨4, .bool, y2, 99, none⟩)], [], [], []⟩) (fun y0 => K .ret ⟨[(4, .c (.own 384))], [(384, ⟨2, .int .i64, y0, 99, none⟩)], [], [], []⟩)
abbrev spec_l3Widths.l20.s : ST := ⟨[(5, .c (.o (.own 384))), (6, .c (.o (.own 192))), (7, .c (.o (.own 1056))), (11, .c (.o (.int .i64)))], [⟨192, 2, .int .i64, 99⟩, ⟨384, 2, .int .i64, 99⟩, ⟨1056, 4, .bool, 99⟩], [], [], []⟩
def spec_l3Widths.l20.u (n : Nat) (v : spec_l3Widths.l20.s.V) (K : X → St → Prop) : Prop := spec_l3Widths.l20 n v.2.1.1 v.2.1.2.1 v.2.1.2.2.1 v.1.2.2.2.1 (fun y0 => K (.exit 4) ⟨[(6, .c (.own 192))], [(192, ⟨2, .int .i64, y0, 99, none⟩)], [], [], []⟩) (fun y0 => K .ret ⟨[(4, .c (.own 384))], [(384, ⟨2, .int .i64, y0, 99, none⟩)], [], [], []⟩)
theorem spec_l3Widths.l16_ok : ∀ n v K, spec_l3Widths.l16.u n v K → loopM C X0 n 92 16 (spec_l3Widths.l16.s.fill v) K :=
 loop_tell hX (fn := Tryz.f92) (c := bodyOf Tryz.f92) (a := loopOf Tryz.f92 16) (li := liOf (C.fi 92).loops 16) (by kernel_rfl) (by kernel_rfl) (of_decide_eq_true rfl) (by kernel_rfl) (by kernel_rfl) (T := spec_l3Widths.l16.s) (u := spec_l3Widths.l16.u) (fun _ _ h => h) (call := D33) (lp := fun n => noL) (D33_ok hX) (fun n => noL_ok) (fun n v K => by kernel_rfl)
theorem spec_l3Widths.l7_ok : ∀ n v K, spec_l3Widths.l7.u n v K → loopM C X0 n 92 7 (spec_l3Widths.l7.s.fill v) K :=
 loop_tell hX (fn := Tryz.f92) (c := bodyOf Tryz.f92) (a := loopOf Tryz.f92 7) (li := liOf (C.fi 92).loops 7) (by kernel_rfl) (by kernel_rfl) (of_decide_eq_true rfl) (by kernel_rfl) (by kernel_rfl) (T := spec_l3Widths.l7.s) (u := spec_l3Widths.l7.u) (fun _ _ h => h) (call := D33) (lp := fun n => orL 16 spec_l3Widths.l16.s (spec_l3Widths.l16.u n) noL) (D33_ok hX) (fun n => (orL_ok (spec_l3Widths.l16_ok hX n) noL_ok)) (fun n v K => by kernel_rfl)
theorem spec_l3Widths.l20_ok : ∀ n v K, spec_l3Widths.l20.u n v K → loopM C X0 n 92 20 (spec_l3Widths.l20.s.fill v) K :=
 loop_tell hX (fn := Tryz.f92) (c := bodyOf Tryz.f92) (a := loopOf Tryz.f92 20) (li := liOf (C.fi 92).loops 20) (by kernel_rfl) (by kernel_rfl) (of_decide_eq_true rfl) (by kernel_rfl) (by kernel_rfl) (T := spec_l3Widths.l20.s) (u := spec_l3Widths.l20.u) (fun _ _ h => h) (call := D33) (lp := fun n => noL) (D33_ok hX) (fun n => noL_ok) (fun n v K => by kernel_rfl)
theorem spec_l3Widths_ok : ∀ n v K, spec_l3Widths.u n v K → callM C X0 n 92 (fillA spec_l3Widths.a v) K :=
 call_tell hX (fn := Tryz.f92) (c := bodyOf Tryz.f92) (by kernel_rfl) (by kernel_rfl) (A := spec_l3Widths.a) (u := spec_l3Widths.u) (fun _ _ h => h) (call := D33) (lp := fun n => orL 7 spec_l3Widths.l7.s (spec_l3Widths.l7.u n) (orL 20 spec_l3Widths.l20.s (spec_l3Widths.l20.u n) noL)) (D33_ok hX) (fun n => (orL_ok (spec_l3Widths.l7_ok hX n) (orL_ok (spec_l3Widths.l20_ok hX n) noL_ok))) (fun n v K => by kernel_rfl)
def D34 (n : Nat) : CallF := orC 92 spec_l3Widths.a (spec_l3Widths.u n) (D33 n)
theorem D34_ok : ∀ n g a K, D34 n g a K → callM C X0 n g a K := fun n => orC_ok (spec_l3Widths_ok hX n) (D33_ok hX n)
abbrev spec_WidthOf.a : List TS := [.c (.o (.dat 63 (.prod .str (.int .i64)))), .a [.o (.dat 114 (.prod (.int .i64) (.prod (.int .i64) (.prod (.int .i64) (.prod (.int .i64) (.prod (.int .i64) (.prod (.sl 115 (.int .u64)) (.sl 2 (.int .i64)))))))))]]
def spec_WidthOf.u (n : Nat) (v : VA spec_WidthOf.a) (K : RES → Prop) : Prop := spec_WidthOf.c n v.1 v.2.1.1 (fun r0 => K ⟨.c (.int .i64 r0), []⟩)
theorem spec_WidthOf_ok : ∀ n v K, spec_WidthOf.u n v K → callM C X0 n 73 (fillA spec_WidthOf.a v) K :=
 call_tell hX (fn := Tryz.f73) (c := bodyOf Tryz.f73) (by kernel_rfl) (by kernel_rfl) (A := spec_WidthOf.a) (u := spec_WidthOf.u) (fun _ _ h => h) (call := D34) (lp := fun n => noL) (D34_ok hX) (fun n => noL_ok) (fun n v K => by kernel_rfl)
def D35 (n : Nat) : CallF := orC 73 spec_WidthOf.a (spec_WidthOf.u n) (D34 n)
theorem D35_ok : ∀ n g a K, D35 n g a K → callM C X0 n g a K := fun n => orC_ok (spec_WidthOf_ok hX n) (D34_ok hX n)
abbrev spec_LiteralsOk.a : List TS := [.c (.o (.dat 63 (.prod .str (.int .i64)))), .c (.o (.dat 69 (.prod (.int .i64) (.prod .bool (.prod (.sl 114 (.prod (.int .i64) (.prod (.int .i64) (.prod (.int .i64) (.prod (.int .i64) (.prod (.int .i64) (.prod (.sl 115 (.int .u64)) (.sl 2 (.int .i64))))))))) (.sl 114 (.prod (.int .i64) (.prod (.int .i64) (.prod (.int .i64) (.prod (.int .i64) (.prod (.int .i64) (.prod (.sl 115 (.int .u64)) (.sl 2 (.int .i64))))))))))))))]
def spec_LiteralsOk.u (n : Nat) (v : VA spec_LiteralsOk.a) (K : RES → Prop) : Prop := spec_LiteralsOk.c n v.1 v.2.1 (fun r0 => K ⟨.c (.bool r0), []⟩)
abbrev spec_LiteralsOk.l4.s : ST := ⟨[(0, .c (.o (.dat 63 (.prod .str (.int .i64))))), (1, .c (.o (.dat 69 (.prod (.int .i64) (.prod .bool (.prod (.sl 114 (.prod (.int .i64) (.prod (.int .i64) (.prod (.int .i64) (.prod (.int .i64) (.prod (.int .i64) (.prod (.sl 115 (.int .u64)) (.sl 2 (.int .i64))))))))) (.sl 114 (.prod (.int .i64) (.prod (.int .i64) (.prod (.int .i64) (.prod (.int .i64) (.prod (.int .i64) (.prod (.sl 115 (.int .u64)) (.sl 2 (.int .i64))))))))))))))), (5, .c (.o (.int .i64)))], [], [], [], []⟩
def spec_LiteralsOk.l4.u (n : Nat) (v : spec_LiteralsOk.l4.s.V) (K : X → St → Prop) : Prop := spec_LiteralsOk.l4 n v.1.1 v.1.2.1 v.1.2.2.1 (K (.exit 0) ⟨[], [], [], [], []⟩) (fun y0 => K .ret ⟨[(4, .c (.bool y0))], [], [], [], []⟩)
theorem spec_LiteralsOk.l4_ok : ∀ n v K, spec_LiteralsOk.l4.u n v K → loopM C X0 n 42 4 (spec_LiteralsOk.l4.s.fill v) K :=
 loop_tell hX (fn := Tryz.f42) (c := bodyOf Tryz.f42) (a := loopOf Tryz.f42 4) (li := liOf (C.fi 42).loops 4) (by kernel_rfl) (by kernel_rfl) (of_decide_eq_true rfl) (by kernel_rfl) (by kernel_rfl) (T := spec_LiteralsOk.l4.s) (u := spec_LiteralsOk.l4.u) (fun _ _ h => h) (call := D35) (lp := fun n => noL) (D35_ok hX) (fun n => noL_ok) (fun n v K => by kernel_rfl)
theorem spec_LiteralsOk_ok : ∀ n v K, spec_LiteralsOk.u n v K → callM C X0 n 42 (fillA spec_LiteralsOk.a v) K :=
 call_tell hX (fn := Tryz.f42) (c := bodyOf Tryz.f42) (by kernel_rfl) (by kernel_rfl) (A := spec_LiteralsOk.a) (u := spec_LiteralsOk.u) (fun _ _ h => h) (call := D35) (lp := fun n => orL 4 spec_LiteralsOk.l4.s (spec_LiteralsOk.l4.u n) noL) (D35_ok hX) (fun n => (orL_ok (spec_LiteralsOk.l4_ok hX n) noL_ok)) (fun n v K => by kernel_rfl)
def D36 (n : Nat) : CallF := orC 42 spec_LiteralsOk.a (spec_LiteralsOk.u n) (D35 n)
theorem D36_ok : ∀ n g a K, D36 n g a K → callM C X0 n g a K := fun n => orC_ok (spec_LiteralsOk_ok hX n) (D35_ok hX n)
end
end Go.Vsi
end

section
set_option linter.unusedVariables false
namespace Go.Vsi
open Go.Proofs
section
variable {X0 : CallF} (hX : CallF.Mono X0)
include hX
abbrev spec_l1List.a : List TS := [.a [.o (.int .i64), .o (.dat 115 (.int .u64))]]
def spec_l1List.u (n : Nat) (v : VA spec_l1List.a) (K : RES → Prop) : Prop := spec_l1List.c n v.1.1 v.1.2.1 (fun r0 => K ⟨.c (.row ⟨5, .int .u8, r0, 99, none⟩), []⟩)
abbrev spec_l1List.l3.s : ST := ⟨[(1, .c (.o (.pbox 1 0))), (3, .c (.o (.own 96))), (4, .c (.o (.int .i64)))], [⟨96, 5, .int .u8, 99⟩], [⟨1, 83, [.o (.int .i64), .o (.dat 115 (.int .u64))], false⟩], [], []⟩
def spec_l1List.l3.u (n : Nat) (v : spec_l1List.l3.s.V) (K : X → St → Prop) : Prop := spec_l1List.l3 n v.2.2.1.1 v.2.2.1.2.1 v.1.2.2.1 v.2.1.1 (fun y0 => K (.exit 0) ⟨[(3, .c (.own 96))], [(96, ⟨5, .int .u8, y0, 99, none⟩)], [], [], []⟩)
theorem spec_l1List.l3_ok : ∀ n v K, spec_l1List.l3.u n v K → loopM C X0 n 125 3 (spec_l1List.l3.s.fill v) K :=
 loop_tell hX (fn := Tryz.f125) (c := bodyOf Tryz.f125) (a := loopOf Tryz.f125 3) (li := liOf (C.fi 125).loops 3) (by kernel_rfl) (by kernel_rfl) (of_decide_eq_true rfl) (by kernel_rfl) (by kernel_rfl) (T := spec_l1List.l3.s) (u := spec_l1List.l3.u) (fun _ _ h => h) (call := D36) (lp := fun n => noL) (D36_ok hX) (fun n => noL_ok) (fun n v K => by kernel_rfl)
theorem spec_l1List_ok : ∀ n v K, spec_l1List.u n v K → callM C X0 n 125 (fillA spec_l1List.a v) K :=
 call_tell hX (fn := Tryz.f125) (c := bodyOf Tryz.f125) (by kernel_rfl) (by kernel_rfl) (A := spec_l1List.a) (u := spec_l1List.u) (fun _ _ h => h) (call := D36) (lp := fun n => orL 3 spec_l1List.l3.s (spec_l1List.l3.u n) noL) (D36_ok hX) (fun n => (orL_ok (spec_l1List.l3_ok hX n) noL_ok)) (fun n v K => by kernel_rfl)
def D37 (n : Nat) : CallF := orC 125 spec_l1List.a (spec_l1List.u n) (D36 n)
theorem D37_ok : ∀ n g a K, D37 n g a K → callM C X0 n g a K := fun n => orC_ok (spec_l1List_ok hX n) (D36_ok hX n)
abbrev spec_l1From.a : List TS := [.c (.o (.dat 5 (.int .u8)))]
def spec_l1From.u (n : Nat) (v : VA spec_l1From.a) (K : RES → Prop) : Prop := spec_l1From.c n v.1 (fun r0 r1 r2 => K ⟨.tup [.agg [.int .i64 r0, .row ⟨115, .int .u64, r1, 99, none⟩], .c (.bool r2)], []⟩)
abbrev spec_l1From.l5.s : ST := ⟨[(0, .c (.o (.dat 5 (.int .u8)))), (2, .c (.o (.pbox 2 0))), (4, .c (.o (.pbox 4 0))), (5, .c (.o (.int .i64)))], [⟨672, 115, .int .u64, 99⟩, ⟨1000065, 115, .int .u64, 99⟩], [⟨2, 83, [.o (.int .i64), .o (.own 1000065)], false⟩, ⟨4, 83, [.o (.int .i64), .o (.own 672)], false⟩], [], []⟩
def spec_l1From.l5.u (n : Nat) (v : spec_l1From.l5.s.V) (K : X → St → Prop) : Prop := spec_l1From.l5 n v.1.1 v.2.1.2.1 v.2.2.1.1 v.2.2.2.1.1 v.1.2.2.2.1 v.2.1.1 (fun y0 y1 y2 y3 => K (.exit 0) ⟨[(2, .c (.pbox 2 0)), (4, .c (.pbox 4 0))], [(672, ⟨115, .int .u64, y0, 99, none⟩), (1000065, ⟨115, .int .u64, y1, 99, none⟩)], [(2, ⟨83, [.int .i64 y2, .own 1000065], false⟩), (4, ⟨83, [.int .i64 y3, .own 672], false⟩)], [], []⟩)
theorem spec_l1From.l5_ok : ∀ n v K, spec_l1From.l5.u n v K → loopM C X0 n 87 5 (spec_l1From.l5.s.fill v) K :=
 loop_tell hX (fn := Tryz.f87) (c := bodyOf Tryz.f87) (a := loopOf Tryz.f87 5) (li := liOf (C.fi 87).loops 5) (by kernel_rfl) (by kernel_rfl) (of_decide_eq_true rfl) (by kernel_rfl) (by kernel_rfl) (T := spec_l1From.l5.s) (u := spec_l1From.l5.u) (fun _ _ h => h) (call := D37) (lp := fun n => noL) (D37_ok hX) (fun n => noL_ok) (fun n v K => by kernel_rfl)
theorem spec_l1From_ok : ∀ n v K, spec_l1From.u n v K → callM C X0 n 87 (fillA spec_l1From.a v) K :=
 call_tell hX (fn := Tryz.f87) (c := bodyOf Tryz.f87) (by kernel_rfl) (by kernel_rfl) (A := spec_l1From.a) (u := spec_l1From.u) (fun _ _ h => h) (call := D37) (lp := fun n => orL 5 spec_l1From.l5.s (spec_l1From.l5.u n) noL) (D37_ok hX) (fun n => (orL_ok (spec_l1From.l5_ok hX n) noL_ok)) (fun n v K => by kernel_rfl)
def D38 (n : Nat) : CallF := orC 87 spec_l1From.a (spec_l1From.u n) (D37 n)
theorem D38_ok : ∀ n g a K, D38 n g a K → callM C X0 n g a K := fun n => orC_ok (spec_l1From_ok hX n) (D37_ok hX n)
abbrev spec_JoinBits.a : List TS := [.a [.o (.int .i64), .o (.dat 115 (.int .u64))], .a [.o (.int .i64), .o (.dat 115 (.int .u64))]]
def spec_JoinBits.u (n : Nat) (v : VA spec_JoinBits.a) (K : RES → Prop) : Prop := spec_JoinBits.c n v.1.1 v.1.2.1 v.2.1.1 v.2.1.2.1 (fun r0 r1 r2 => K ⟨.tup [.agg [.int .i64 r0, .row ⟨115, .int .u64, r1, 99, none⟩], .c (.bool r2)], []⟩)
theorem spec_JoinBits_ok : ∀ n v K, spec_JoinBits.u n v K → callM C X0 n 102 (fillA spec_JoinBits.a v) K :=
 call_tell hX (fn := Tryz.f102) (c := bodyOf Tryz.f102) (by kernel_rfl) (by kernel_rfl) (A := spec_JoinBits.a) (u := spec_JoinBits.u) (fun _ _ h => h) (call := D38) (lp := fun n => noL) (D38_ok hX) (fun n => noL_ok) (fun n v K => by kernel_rfl)
def D39 (n : Nat) : CallF := orC 102 spec_JoinBits.a (spec_JoinBits.u n) (D38 n)
theorem D39_ok : ∀ n g a K, D39 n g a K → callM C X0 n g a K := fun n => orC_ok (spec_JoinBits_ok hX n) (D38_ok hX n)
abbrev spec_PartOf.a : List TS := [.a [.o (.int .i64), .o (.dat 115 (.int .u64))], .c (.o (.int .i64)), .c (.o (.int .i64))]
def spec_PartOf.u (n : Nat) (v : VA spec_PartOf.a) (K : RES → Prop) : Prop := spec_PartOf.c n v.1.1 v.1.2.1 v.2.1 v.2.2.1 (fun r0 r1 r2 => K ⟨.tup [.agg [.int .i64 r0, .row ⟨115, .int .u64, r1, 99, none⟩], .c (.bool r2)], []⟩)
theorem spec_PartOf_ok : ∀ n v K, spec_PartOf.u n v K → callM C X0 n 103 (fillA spec_PartOf.a v) K :=
 call_tell hX (fn := Tryz.f103) (c := bodyOf Tryz.f103) (by kernel_rfl) (by kernel_rfl) (A := spec_PartOf.a) (u := spec_PartOf.u) (fun _ _ h => h) (call := D39) (lp := fun n => noL) (D39_ok hX) (fun n => noL_ok) (fun n v K => by kernel_rfl)
def D40 (n : Nat) : CallF := orC 103 spec_PartOf.a (spec_PartOf.u n) (D39 n)
theorem D40_ok : ∀ n g a K, D40 n g a K → callM C X0 n g a K := fun n => orC_ok (spec_PartOf_ok hX n) (D39_ok hX n)
abbrev spec_WidenBits.a : List TS := [.a [.o (.int .i64), .o (.dat 115 (.int .u64))], .c (.o (.int .i64)), .c (.o .bool)]
def spec_WidenBits.u (n : Nat) (v : VA spec_WidenBits.a) (K : RES → Prop) : Prop := spec_WidenBits.c n v.1.1 v.1.2.1 v.2.1 v.2.2.1 (fun r0 r1 r2 => K ⟨.tup [.agg [.int .i64 r0, .row ⟨115, .int .u64, r1, 99, none⟩], .c (.bool r2)], []⟩)
abbrev spec_WidenBits.l8.s : ST := ⟨[(1, .c (.o (.int .i64))), (6, .c (.o (.pbox 6 0))), (8, .c (.o (.own 256))), (9, .c (.o (.int .u8))), (10, .c (.o (.int .i64)))], [⟨256, 5, .int .u8, 99⟩, ⟨1000193, 115, .int .u64, 99⟩], [⟨6, 83, [.o (.int .i64), .o (.own 1000193)], false⟩], [], []⟩
def spec_WidenBits.l8.u (n : Nat) (v : spec_WidenBits.l8.s.V) (K : X → St → Prop) : Prop := spec_WidenBits.l8 n v.1.1 v.1.2.2.2.1 v.2.1.2.1 v.2.2.1.1 v.1.2.2.2.2.1 v.2.1.1 (fun y0 y1 y2 => K (.exit 0) ⟨[(6, .c (.pbox 6 0)), (8, .c (.own 256))], [(256, ⟨5, .int .u8, y0, 99, none⟩), (1000193, ⟨115, .int .u64, y1, 99, none⟩)], [(6, ⟨83, [.int .i64 y2, .own 1000193], false⟩)], [], []⟩)
theorem spec_WidenBits.l8_ok : ∀ n v K, spec_WidenBits.l8.u n v K → loopM C X0 n 104 8 (spec_WidenBits.l8.s.fill v) K :=
 loop_tell hX (fn := Tryz.f104) (c := bodyOf Tryz.f104) (a := loopOf Tryz.f104 8) (li := liOf (C.fi 104).loops 8) (by kernel_rfl) (by kernel_rfl) (of_decide_eq_true rfl) (by kernel_rfl) (by kernel_rfl) (T := spec_WidenBits.l8.s) (u := spec_WidenBits.l8.u) (fun _ _ h => h) (call := D40) (lp := fun n => noL) (D40_ok hX) (fun n => noL_ok) (fun n v K => by kernel_rfl)
theorem spec_WidenBits_ok : ∀ n v K, spec_WidenBits.u n v K → callM C X0 n 104 (fillA spec_WidenBits.a v) K :=
 call_tell hX (fn := Tryz.f104) (c := bodyOf Tryz.f104) (by kernel_rfl) (by kernel_rfl) (A := spec_WidenBits.a) (u := spec_WidenBits.u) (fun _ _ h => h) (call := D40) (lp := fun n => orL 8 spec_WidenBits.l8.s (spec_WidenBits.l8.u n) noL) (D40_ok hX) (fun n => (orL_ok (spec_WidenBits.l8_ok hX n) noL_ok)) (fun n v K => by kernel_rfl)
def D41 (n : Nat) : CallF := orC 104 spec_WidenBits.a (spec_WidenBits.u n) (D40 n)
theorem D41_ok : ∀ n g a K, D41 n g a K → callM C X0 n g a K := fun n => orC_ok (spec_WidenBits_ok hX n) (D40_ok hX n)
abbrev spec_TurnBits.a : List TS := [.a [.o (.int .i64), .o (.dat 115 (.int .u64))], .c (.o (.int .i64))]
def spec_TurnBits.u (n : Nat) (v : VA spec_TurnBits.a) (K : RES → Prop) : Prop := spec_TurnBits.c n v.1.1 v.1.2.1 v.2.1 (fun r0 r1 r2 => K ⟨.tup [.agg [.int .i64 r0, .row ⟨115, .int .u64, r1, 99, none⟩], .c (.bool r2)], []⟩)
abbrev spec_TurnBits.l6.s : ST := ⟨[(1, .c (.o (.int .i64))), (4, .c (.o (.pbox 4 0))), (6, .c (.o (.own 608))), (7, .c (.o (.own 704))), (8, .c (.o (.int .i64)))], [⟨608, 5, .int .u8, 99⟩, ⟨704, 5, .int .u8, 99⟩, ⟨1000129, 115, .int .u64, 99⟩], [⟨4, 83, [.o (.int .i64), .o (.own 1000129)], false⟩], [], []⟩
def spec_TurnBits.l6.u (n : Nat) (v : spec_TurnBits.l6.s.V) (K : X → St → Prop) : Prop := spec_TurnBits.l6 n v.1.1 v.2.1.1 v.2.1.2.2.1 v.2.2.1.1 v.1.2.2.2.2.1 v.2.1.2.1 (fun y0 y1 y2 => K (.exit 0) ⟨[(4, .c (.pbox 4 0)), (7, .c (.own 704))], [(704, ⟨5, .int .u8, y0, 99, none⟩), (1000129, ⟨115, .int .u64, y1, 99, none⟩)], [(4, ⟨83, [.int .i64 y2, .own 1000129], false⟩)], [], []⟩)
theorem spec_TurnBits.l6_ok : ∀ n v K, spec_TurnBits.l6.u n v K → loopM C X0 n 105 6 (spec_TurnBits.l6.s.fill v) K :=
 loop_tell hX (fn := Tryz.f105) (c := bodyOf Tryz.f105) (a := loopOf Tryz.f105 6) (li := liOf (C.fi 105).loops 6) (by kernel_rfl) (by kernel_rfl) (of_decide_eq_true rfl) (by kernel_rfl) (by kernel_rfl) (T := spec_TurnBits.l6.s) (u := spec_TurnBits.l6.u) (fun _ _ h => h) (call := D41) (lp := fun n => noL) (D41_ok hX) (fun n => noL_ok) (fun n v K => by kernel_rfl)
theorem spec_TurnBits_ok : ∀ n v K, spec_TurnBits.u n v K → callM C X0 n 105 (fillA spec_TurnBits.a v) K :=
 call_tell hX (fn := Tryz.f105) (c := bodyOf Tryz.f105) (by kernel_rfl) (by kernel_rfl) (A := spec_TurnBits.a) (u := spec_TurnBits.u) (fun _ _ h => h) (call := D41) (lp := fun n => orL 6 spec_TurnBits.l6.s (spec_TurnBits.l6.u n) noL) (D41_ok hX) (fun n => (orL_ok (spec_TurnBits.l6_ok hX n) noL_ok)) (fun n v K => by kernel_rfl)
def D42 (n : Nat) : CallF := orC 105 spec_TurnBits.a (spec_TurnBits.u n) (D41 n)
theorem D42_ok : ∀ n g a K, D42 n g a K → callM C X0 n g a K := fun n => orC_ok (spec_TurnBits_ok hX n) (D41_ok hX n)
abbrev spec_RepeatBits.a : List TS := [.a [.o (.int .i64), .o (.dat 115 (.int .u64))], .c (.o (.int .i64))]
def spec_RepeatBits.u (n : Nat) (v : VA spec_RepeatBits.a) (K : RES → Prop) : Prop := spec_RepeatBits.c n v.1.1 v.1.2.1 v.2.1 (fun r0 r1 r2 => K ⟨.tup [.agg [.int .i64 r0, .row ⟨115, .int .u64, r1, 99, none⟩], .c (.bool r2)], []⟩)
abbrev spec_RepeatBits.l6.s : ST := ⟨[(1, .c (.o (.int .i64))), (4, .c (.o (.pbox 4 0))), (6, .c (.o (.own 832))), (7, .c (.o (.own 224))), (8, .c (.o (.int .i64)))], [⟨224, 5, .int .u8, 99⟩, ⟨832, 5, .int .u8, 99⟩, ⟨1000129, 115, .int .u64, 99⟩], [⟨4, 83, [.o (.int .i64), .o (.own 1000129)], false⟩], [], []⟩
def spec_RepeatBits.l6.u (n : Nat) (v : spec_RepeatBits.l6.s.V) (K : X → St → Prop) : Prop := spec_RepeatBits.l6 n v.1.1 v.2.1.2.1 v.2.1.2.2.1 v.2.2.1.1 v.1.2.2.2.2.1 v.2.1.1 (fun y0 y1 y2 => K (.exit 0) ⟨[(4, .c (.pbox 4 0)), (7, .c (.own 224))], [(224, ⟨5, .int .u8, y0, 99, none⟩), (1000129, ⟨115, .int .u64, y1, 99, none⟩)], [(4, ⟨83, [.int .i64 y2, .own 1000129], false⟩)], [], []⟩)
theorem spec_RepeatBits.l6_ok : ∀ n v K, spec_RepeatBits.l6.u n v K → loopM C X0 n 106 6 (spec_RepeatBits.l6.s.fill v) K :=
 loop_tell hX (fn := Tryz.f106) (c := bodyOf Tryz.f106) (a := loopOf Tryz.f106 6) (li := liOf (C.fi 106).loops 6) (by kernel_rfl) (by kernel_rfl) (of_decide_eq_true rfl) (by kernel_rfl) (by kernel_rfl) (T := spec_RepeatBits.l6.s) (u := spec_RepeatBits.l6.u) (fun _ _ h => h) (call := D42) (lp := fun n => noL) (D42_ok hX) (fun n => noL_ok) (fun n v K => by kernel_rfl)
theorem spec_RepeatBits_ok : ∀ n v K, spec_RepeatBits.u n v K → callM C X0 n 106 (fillA spec_RepeatBits.a v) K :=
 call_tell hX (fn := Tryz.f106) (c := bodyOf Tryz.f106) (by kernel_rfl) (by kernel_rfl) (A := spec_RepeatBits.a) (u := spec_RepeatBits.u) (fun _ _ h => h) (call := D42) (lp := fun n => orL 6 spec_RepeatBits.l6.s (spec_RepeatBits.l6.u n) noL) (D42_ok hX) (fun n => (orL_ok (spec_RepeatBits.l6_ok hX n) noL_ok)) (fun n v K => by kernel_rfl)
def D43 (n : Nat) : CallF := orC 106 spec_RepeatBits.a (spec_RepeatBits.u n) (D42 n)
theorem D43_ok : ∀ n g a K, D43 n g a K → callM C X0 n g a K := fun n => orC_ok (spec_RepeatBits_ok hX n) (D42_ok hX n)
abbrev spec_l4Node.a : List TS := [.c (.o (.dat 83 (.prod (.int .i64) (.sl 115 (.int .u64))))), .a [.o (.int .i64), .o (.int .i64), .o (.int .i64), .o (.int .i64), .o (.int .i64), .o (.dat 115 (.int .u64)), .o (.dat 2 (.int .i64))], .c (.o (.dat 83 (.prod (.int .i64) (.sl 115 (.int .u64)))))]
def spec_l4Node.u (n : Nat) (v : VA spec_l4Node.a) (K : RES → Prop) : Prop := spec_l4Node.c n v.1 v.2.1.1 v.2.1.2.1 v.2.1.2.2.1 v.2.1.2.2.2.1 v.2.1.2.2.2.2.1 v.2.1.2.2.2.2.2.1 v.2.1.2.2.2.2.2.2.1 v.2.2.1 (fun r0 r1 => K ⟨.agg [.int .i64 r0, .dat 115 (.int .u64) r1], []⟩)
abbrev spec_l4Node.l10.s : ST := ⟨[(2, .c (.o (.dat 83 (.prod (.int .i64) (.sl 115 (.int .u64)))))), (6, .c (.o (.pbox 6 0))), (7, .c (.o (.pbox 7 0))), (8, .c (.o (.int .i64)))], [⟨1000193, 115, .int .u64, 99⟩], [⟨6, 83, [.o (.int .i64), .o (.own 1000193)], false⟩, ⟨7, 83, [.o (.int .i64), .o (.dat 115 (.int .u64))], false⟩], [], []⟩
def spec_l4Node.l10.u (n : Nat) (v : spec_l4Node.l10.s.V) (K : X → St → Prop) : Prop := spec_l4Node.l10 n v.1.1 v.2.1.1 v.2.2.1.1 v.1.2.2.2.1 v.2.2.2.1.1 v.2.2.2.1.2.1 (fun y0 y1 y2 y3 => K (.exit 1) ⟨[(6, .c (.pbox 6 0)), (7, .c (.pbox 7 0))], [(1000193, ⟨115, .int .u64, y0, 99, none⟩)], [(6, ⟨83, [.int .i64 y1, .own 1000193], false⟩), (7, ⟨83, [.int .i64 y2, .dat 115 (.int .u64) y3], false⟩)], [], []⟩)
theorem spec_l4Node.l10_ok : ∀ n v K, spec_l4Node.l10.u n v K → loopM C X0 n 86 10 (spec_l4Node.l10.s.fill v) K :=
 loop_tell hX (fn := Tryz.f86) (c := bodyOf Tryz.f86) (a := loopOf Tryz.f86 10) (li := liOf (C.fi 86).loops 10) (by kernel_rfl) (by kernel_rfl) (of_decide_eq_true rfl) (by kernel_rfl) (by kernel_rfl) (T := spec_l4Node.l10.s) (u := spec_l4Node.l10.u) (fun _ _ h => h) (call := D43) (lp := fun n => noL) (D43_ok hX) (fun n => noL_ok) (fun n v K => by kernel_rfl)
theorem spec_l4Node_ok : ∀ n v K, spec_l4Node.u n v K → callM C X0 n 86 (fillA spec_l4Node.a v) K :=
 call_tell hX (fn := Tryz.f86) (c := bodyOf Tryz.f86) (by kernel_rfl) (by kernel_rfl) (A := spec_l4Node.a) (u := spec_l4Node.u) (fun _ _ h => h) (call := D43) (lp := fun n => orL 10 spec_l4Node.l10.s (spec_l4Node.l10.u n) noL) (D43_ok hX) (fun n => (orL_ok (spec_l4Node.l10_ok hX n) noL_ok)) (fun n v K => by kernel_rfl)
def D44 (n : Nat) : CallF := orC 86 spec_l4Node.a (spec_l4Node.u n) (D43 n)
theorem D44_ok : ∀ n g a K, D44 n g a K → callM C X0 n g a K := fun n => orC_ok (spec_l4Node_ok hX n) (D43_ok hX n)
abbrev spec_l4Eval.a : List TS := [.c (.o (.dat 83 (.prod (.int .i64) (.sl 115 (.int .u64))))), .a [.o (.dat 114 (.prod (.int .i64) (.prod (.int .i64) (.prod (.int .i64) (.prod (.int .i64) (.prod (.int .i64) (.prod (.sl 115 (.int .u64)) (.sl 2 (.int .i64)))))))))]]
def spec_l4Eval.u (n : Nat) (v : VA spec_l4Eval.a) (K : RES → Prop) : Prop := spec_l4Eval.c n v.1 v.2.1.1 (fun r0 r1 => K ⟨.agg [.int .i64 r0, .row ⟨115, .int .u64, r1, 99, none⟩], []⟩)
abbrev spec_l4Eval.l7.s : ST := ⟨[(0, .c (.o (.dat 83 (.prod (.int .i64) (.sl 115 (.int .u64)))))), (3, .c (.o (.pbox 3 0))), (4, .c (.o (.pbox 4 0))), (5, .c (.o (.own 160))), (6, .c (.o (.int .i64))), (7, .c (.o (.own 224))), (8, .c (.o (.int .i64)))], [⟨160, 83, .prod (.int .i64) (.sl 115 (.int .u64)), 1⟩, ⟨224, 83, .prod (.int .i64) (.sl 115 (.int .u64)), 1⟩, ⟨1000129, 115, .int .u64, 99⟩], [⟨3, 67, [.o (.dat 114 (.prod (.int .i64) (.prod (.int .i64) (.prod (.int .i64) (.prod (.int .i64) (.prod (.int .i64) (.prod (.sl 115 (.int .u64)) (.sl 2 (.int .i64)))))))))], false⟩, ⟨4, 83, [.o (.int .i64), .o (.own 1000129)], false⟩], [], []⟩
def spec_l4Eval.l7.u (n : Nat) (v : spec_l4Eval.l7.s.V) (K : X → St → Prop) : Prop := spec_l4Eval.l7 n v.1.1 v.1.2.2.2.2.1 v.2.1.1 v.2.1.2.2.1 v.2.2.1.1 v.2.2.2.1.1 v.1.2.2.2.2.2.2.1 v.2.1.2.1 (fun y0 y1 y2 y3 y4 y5 y6 => K (.exit 2) ⟨[(0, .c (.dat 83 (.prod (.int .i64) (.sl 115 (.int .u64))) y0)), (3, .c (.pbox 3 0)), (4, .c (.pbox 4 0)), (5, .c (.own 160)), (6, .c (.int .i64 y1)), (7, .c (.own 224))], [(160, ⟨83, .prod (.int .i64) (.sl 115 (.int .u64)), y2, 1, none⟩), (224, ⟨83, .prod (.int .i64) (.sl 115 (.int .u64)), y3, 1, none⟩), (1000129, ⟨115, .int .u64, y4, 99, none⟩)], [(3, ⟨67, [.dat 114 (.prod (.int .i64) (.prod (.int .i64) (.prod (.int .i64) (.prod (.int .i64) (.prod (.int .i64) (.prod (.sl 115 (.int .u64)) (.sl 2 (.int .i64)))))))) y5], false⟩), (4, ⟨83, [.int .i64 y6, .own 1000129], false⟩)], [], []⟩)
abbrev spec_l4Eval.l3.s : ST := ⟨[(0, .c (.o (.dat 83 (.prod (.int .i64) (.sl 115 (.int .u64)))))), (3, .c (.o (.pbox 3 0))), (4, .c (.o (.pbox 4 0))), (5, .c (.o (.own 160))), (6, .c (.o (.int .i64)))], [⟨160, 83, .prod (.int .i64) (.sl 115 (.int .u64)), 1⟩, ⟨1000129, 115, .int .u64, 99⟩], [⟨3, 67, [.o (.dat 114 (.prod (.int .i64) (.prod (.int .i64) (.prod (.int .i64) (.prod (.int .i64) (.prod (.int .i64) (.prod (.sl 115 (.int .u64)) (.sl 2 (.int .i64)))))))))], false⟩, ⟨4, 83, [.o (.int .i64), .o (.own 1000129)], false⟩], [], []⟩
def spec_l4Eval.l3.u (n : Nat) (v : spec_l4Eval.l3.s.V) (K : X → St → Prop) : Prop := spec_l4Eval.l3 n v.1.1 v.1.2.2.2.2.1 v.2.1.1 v.2.1.2.1 v.2.2.1.1 v.2.2.2.1.1 (fun y0 y1 y2 => K (.exit 0) ⟨[(4, .c (.pbox 4 0)), (5, .c (.own 160))], [(160, ⟨83, .prod (.int .i64) (.sl 115 (.int .u64)), y0, 1, none⟩), (1000129, ⟨115, .int .u64, y1, 99, none⟩)], [(4, ⟨83, [.int .i64 y2, .own 1000129], false⟩)], [], []⟩)
theorem spec_l4Eval.l7_ok : ∀ n v K, spec_l4Eval.l7.u n v K → loopM C X0 n 62 7 (spec_l4Eval.l7.s.fill v) K :=
 loop_tell hX (fn := Tryz.f62) (c := bodyOf Tryz.f62) (a := loopOf Tryz.f62 7) (li := liOf (C.fi 62).loops 7) (by kernel_rfl) (by kernel_rfl) (of_decide_eq_true rfl) (by kernel_rfl) (by kernel_rfl) (T := spec_l4Eval.l7.s) (u := spec_l4Eval.l7.u) (fun _ _ h => h) (call := D44) (lp := fun n => noL) (D44_ok hX) (fun n => noL_ok) (fun n v K => by kernel_rfl)
theorem spec_l4Eval.l3_ok : ∀ n v K, spec_l4Eval.l3.u n v K → loopM C X0 n 62 3 (spec_l4Eval.l3.s.fill v) K :=
 loop_tell hX (fn := Tryz.f62) (c := bodyOf Tryz.f62) (a := loopOf Tryz.f62 3) (li := liOf (C.fi 62).loops 3) (by kernel_rfl) (by kernel_rfl) (of_decide_eq_true rfl) (by kernel_rfl) (by kernel_rfl) (T := spec_l4Eval.l3.s) (u := spec_l4Eval.l3.u) (fun _ _ h => h) (call := D44) (lp := fun n => orL 7 spec_l4Eval.l7.s (spec_l4Eval.l7.u n) noL) (D44_ok hX) (fun n => (orL_ok (spec_l4Eval.l7_ok hX n) noL_ok)) (fun n v K => by kernel_rfl)
theorem spec_l4Eval_ok : ∀ n v K, spec_l4Eval.u n v K → callM C X0 n 62 (fillA spec_l4Eval.a v) K :=
 call_tell hX (fn := Tryz.f62) (c := bodyOf Tryz.f62) (by kernel_rfl) (by kernel_rfl) (A := spec_l4Eval.a) (u := spec_l4Eval.u) (fun _ _ h => h) (call := D44) (lp := fun n => orL 3 spec_l4Eval.l3.s (spec_l4Eval.l3.u n) noL) (D44_ok hX) (fun n => (orL_ok (spec_l4Eval.l3_ok hX n) noL_ok)) (fun n v K => by kernel_rfl)
def D45 (n : Nat) : CallF := orC 62 spec_l4Eval.a (spec_l4Eval.u n) (D44 n)
theorem D45_ok : ∀ n g a K, D45 n g a K → callM C X0 n g a K := fun n => orC_ok (spec_l4Eval_ok hX n) (D44_ok hX n)
abbrev spec_l3SameBits.a : List TS := [.a [.o (.int .i64), .o (.dat 115 (.int .u64))], .a [.o (.int .i64), .o (.dat 115 (.int .u64))]]
def spec_l3SameBits.u (n : Nat) (v : VA spec_l3SameBits.a) (K : RES → Prop) : Prop := spec_l3SameBits.c n v.1.1 v.1.2.1 v.2.1.1 v.2.1.2.1 (fun r0 => K ⟨.c (.bool r0), []⟩)
abbrev spec_l3SameBits.l4.s : ST := ⟨[(2, .c (.o (.pbox 2 0))), (3, .c (.o (.pbox 3 0))), (5, .c (.o (.int .i64)))], [], [⟨2, 83, [.o (.int .i64), .o (.dat 115 (.int .u64))], false⟩, ⟨3, 83, [.o (.int .i64), .o (.dat 115 (.int .u64))], false⟩], [], []⟩
def spec_l3SameBits.l4.u (n : Nat) (v : spec_l3SameBits.l4.s.V) (K : X → St → Prop) : Prop := spec_l3SameBits.l4 n v.2.2.1.1 v.2.2.1.2.1 v.2.2.2.1.1 v.2.2.2.1.2.1 v.1.2.2.1 (K (.exit 0) ⟨[], [], [], [], []⟩) (fun y0 => K .ret ⟨[(4, .c (.bool y0))], [], [], [], []⟩)
theorem spec_l3SameBits.l4_ok : ∀ n v K, spec_l3SameBits.l4.u n v K → loopM C X0 n 61 4 (spec_l3SameBits.l4.s.fill v) K :=
 loop_tell hX (fn := Tryz.f61) (c := bodyOf Tryz.f61) (a := loopOf Tryz.f61 4) (li := liOf (C.fi 61).loops 4) (by kernel_rfl) (by kernel_rfl) (of_decide_eq_true rfl) (by kernel_rfl) (by kernel_rfl) (T := spec_l3SameBits.l4.s) (u := spec_l3SameBits.l4.u) (fun _ _ h => h) (call := D45) (lp := fun n => noL) (D45_ok hX) (fun n => noL_ok) (fun n v K => by kernel_rfl)
theorem spec_l3SameBits_ok : ∀ n v K, spec_l3SameBits.u n v K → callM C X0 n 61 (fillA spec_l3SameBits.a v) K :=
 call_tell hX (fn := Tryz.f61) (c := bodyOf Tryz.f61) (by kernel_rfl) (by kernel_rfl) (A := spec_l3SameBits.a) (u := spec_l3SameBits.u) (fun _ _ h => h) (call := D45) (lp := fun n => orL 4 spec_l3SameBits.l4.s (spec_l3SameBits.l4.u n) noL) (D45_ok hX) (fun n => (orL_ok (spec_l3SameBits.l4_ok hX n) noL_ok)) (fun n v K => by kernel_rfl)
def D46 (n : Nat) : CallF := orC 61 spec_l3SameBits.a (spec_l3SameBits.u n) (D45 n)
theorem D46_ok : ∀ n g a K, D46 n g a K → callM C X0 n g a K := fun n => orC_ok (spec_l3SameBits_ok hX n) (D45_ok hX n)
abbrev spec_Holds.a : List TS := [.c (.o (.dat 63 (.prod .str (.int .i64)))), .c (.o (.dat 83 (.prod (.int .i64) (.sl 115 (.int .u64))))), .a [.o (.int .i64), .o .bool, .o (.dat 114 (.prod (.int .i64) (.prod (.int .i64) (.prod (.int .i64) (.prod (.int .i64) (.prod (.int .i64) (.prod (.sl 115 (.int .u64)) (.sl 2 (.int .i64))))))))), .o (.dat 114 (.prod (.int .i64) (.prod (.int .i64) (.prod (.int .i64) (.prod (.int .i64) (.prod (.int .i64) (.prod (.sl 115 (.int .u64)) (.sl 2 (.int .i64)))))))))]]
def spec_Holds.u (n : Nat) (v : VA spec_Holds.a) (K : RES → Prop) : Prop := spec_Holds.c n v.1 v.2.1 v.2.2.1.1 v.2.2.1.2.1 v.2.2.1.2.2.1 v.2.2.1.2.2.2.1 (fun r0 r1 => K ⟨.tup [.c (.bool r0), .c (.bool r1)], []⟩)
theorem spec_Holds_ok : ∀ n v K, spec_Holds.u n v K → callM C X0 n 43 (fillA spec_Holds.a v) K :=
 call_tell hX (fn := Tryz.f43) (c := bodyOf Tryz.f43) (by kernel_rfl) (by kernel_rfl) (A := spec_Holds.a) (u := spec_Holds.u) (fun _ _ h => h) (call := D46) (lp := fun n => noL) (D46_ok hX) (fun n => noL_ok) (fun n v K => by kernel_rfl)
def D47 (n : Nat) : CallF := orC 43 spec_Holds.a (spec_Holds.u n) (D46 n)
theorem D47_ok : ∀ n g a K, D47 n g a K → callM C X0 n g a K := fun n => orC_ok (spec_Holds_ok hX n) (D46_ok hX n)
abbrev spec_Weaken.a : List TS := [.c (.o (.dat 63 (.prod .str (.int .i64)))), .c (.o (.dat 69 (.prod (.int .i64) (.prod .bool (.prod (.sl 114 (.prod (.int .i64) (.prod (.int .i64) (.prod (.int .i64) (.prod (.int .i64) (.prod (.int .i64) (.prod (.sl 115 (.int .u64)) (.sl 2 (.int .i64))))))))) (.sl 114 (.prod (.int .i64) (.prod (.int .i64) (.prod (.int .i64) (.prod (.int .i64) (.prod (.int .i64) (.prod (.sl 115 (.int .u64)) (.sl 2 (.int .i64)))))))))))))), .c (.o (.dat 83 (.prod (.int .i64) (.sl 115 (.int .u64)))))]
def spec_Weaken.u (n : Nat) (v : VA spec_Weaken.a) (K : RES → Prop) : Prop := spec_Weaken.c n v.1 v.2.1 v.2.2.1 (fun r0 r1 => K ⟨.tup [.c (.row ⟨2, .int .i64, r0, 99, none⟩), .c (.bool r1)], []⟩)
abbrev spec_Weaken.l5.s : ST := ⟨[(0, .c (.o (.dat 63 (.prod .str (.int .i64))))), (1, .c (.o (.dat 69 (.prod (.int .i64) (.prod .bool (.prod (.sl 114 (.prod (.int .i64) (.prod (.int .i64) (.prod (.int .i64) (.prod (.int .i64) (.prod (.int .i64) (.prod (.sl 115 (.int .u64)) (.sl 2 (.int .i64))))))))) (.sl 114 (.prod (.int .i64) (.prod (.int .i64) (.prod (.int .i64) (.prod (.int .i64) (.prod (.int .i64) (.prod (.sl 115 (.int .u64)) (.sl 2 (.int .i64))))))))))))))), (2, .c (.o (.dat 83 (.prod (.int .i64) (.sl 115 (.int .u64)))))), (8, .c (.o (.own 256))), (9, .c (.o (.int .i64)))], [⟨256, 2, .int .i64, 99⟩], [], [], []⟩
def spec_Weaken.l5.u (n : Nat) (v : spec_Weaken.l5.s.V) (K : X → St → Prop) : Prop := spec_Weaken.l5 n v.1.1 v.1.2.1 v.1.2.2.1 v.1.2.2.2.2.1 v.2.1.1 (fun y0 => K (.exit 0) ⟨[(8, .c (.own 256))], [(256, ⟨2, .int .i64, y0, 99, none⟩)], [], [], []⟩)
theorem spec_Weaken.l5_ok : ∀ n v K, spec_Weaken.l5.u n v K → loopM C X0 n 15 5 (spec_Weaken.l5.s.fill v) K :=
 loop_tell hX (fn := Tryz.f15) (c := bodyOf Tryz.f15) (a := loopOf Tryz.f15 5) (li := liOf (C.fi 15).loops 5) (by kernel_rfl) (by kernel_rfl) (of_decide_eq_true rfl) (by kernel_rfl) (by kernel_rfl) (T := spec_Weaken.l5.s) (u := spec_Weaken.l5.u) (fun _ _ h => h) (call := D47) (lp := fun n => noL) (D47_ok hX) (fun n => noL_ok) (fun n v K => by kernel_rfl)
theorem spec_Weaken_ok : ∀ n v K, spec_Weaken.u n v K → callM C X0 n 15 (fillA spec_Weaken.a v) K :=
 call_tell hX (fn := Tryz.f15) (c := bodyOf Tryz.f15) (by kernel_rfl) (by kernel_rfl) (A := spec_Weaken.a) (u := spec_Weaken.u) (fun _ _ h => h) (call := D47) (lp := fun n => orL 5 spec_Weaken.l5.s (spec_Weaken.l5.u n) noL) (D47_ok hX) (fun n => (orL_ok (spec_Weaken.l5_ok hX n) noL_ok)) (fun n v K => by kernel_rfl)
def D48 (n : Nat) : CallF := orC 15 spec_Weaken.a (spec_Weaken.u n) (D47 n)
theorem D48_ok : ∀ n g a K, D48 n g a K → callM C X0 n g a K := fun n => orC_ok (spec_Weaken_ok hX n) (D47_ok hX n)
abbrev impl_nameOk.a : List TS := [.c (.o .str)]
def impl_nameOk.u (n : Nat) (v : VA impl_nameOk.a) (K : RES → Prop) : Prop := impl_nameOk.c n v.1 (fun r0 => K ⟨.c (.bool r0), []⟩)
abbrev impl_nameOk.l4.s : ST := ⟨[(0, .c (.o .str)), (3, .c (.o (.int .i64)))], [], [], [], []⟩
def impl_nameOk.l4.u (n : Nat) (v : impl_nameOk.l4.s.V) (K : X → St → Prop) : Prop := impl_nameOk.l4 n v.1.1 v.1.2.1 (K (.exit 0) ⟨[], [], [], [], []⟩) (fun y0 => K .ret ⟨[(2, .c (.bool y0))], [], [], [], []⟩)
theorem impl_nameOk.l4_ok : ∀ n v K, impl_nameOk.l4.u n v K → loopM C X0 n 93 4 (impl_nameOk.l4.s.fill v) K :=
 loop_tell hX (fn := Tryz.f93) (c := bodyOf Tryz.f93) (a := loopOf Tryz.f93 4) (li := liOf (C.fi 93).loops 4) (by kernel_rfl) (by kernel_rfl) (of_decide_eq_true rfl) (by kernel_rfl) (by kernel_rfl) (T := impl_nameOk.l4.s) (u := impl_nameOk.l4.u) (fun _ _ h => h) (call := D48) (lp := fun n => noL) (D48_ok hX) (fun n => noL_ok) (fun n v K => by kernel_rfl)
theorem impl_nameOk_ok : ∀ n v K, impl_nameOk.u n v K → callM C X0 n 93 (fillA impl_nameOk.a v) K :=
 call_tell hX (fn := Tryz.f93) (c := bodyOf Tryz.f93) (by kernel_rfl) (by kernel_rfl) (A := impl_nameOk.a) (u := impl_nameOk.u) (fun _ _ h => h) (call := D48) (lp := fun n => orL 4 impl_nameOk.l4.s (impl_nameOk.l4.u n) noL) (D48_ok hX) (fun n => (orL_ok (impl_nameOk.l4_ok hX n) noL_ok)) (fun n v K => by kernel_rfl)
def D49 (n : Nat) : CallF := orC 93 impl_nameOk.a (impl_nameOk.u n) (D48 n)
theorem D49_ok : ∀ n g a K, D49 n g a K → callM C X0 n g a K := fun n => orC_ok (impl_nameOk_ok hX n) (D48_ok hX n)
abbrev impl_inside.a : List TS := [.c (.o (.int .i64)), .c (.o (.int .i64)), .c (.o (.int .i64))]
def impl_inside.u (n : Nat) (v : VA impl_inside.a) (K : RES → Prop) : Prop := impl_inside.c n v.1 v.2.1 v.2.2.1 (fun r0 => K ⟨.c (.bool r0), []⟩)
theorem impl_inside_ok : ∀ n v K, impl_inside.u n v K → callM C X0 n 79 (fillA impl_inside.a v) K :=
 call_tell hX (fn := Tryz.f79) (c := bodyOf Tryz.f79) (by kernel_rfl) (by kernel_rfl) (A := impl_inside.a) (u := impl_inside.u) (fun _ _ h => h) (call := D49) (lp := fun n => noL) (D49_ok hX) (fun n => noL_ok) (fun n v K => by kernel_rfl)
def D50 (n : Nat) : CallF := orC 79 impl_inside.a (impl_inside.u n) (D49 n)
theorem D50_ok : ∀ n g a K, D50 n g a K → callM C X0 n g a K := fun n => orC_ok (impl_inside_ok hX n) (D49_ok hX n)
abbrev impl_declared_1.a : List TS := [.a [.o .str, .o (.int .i64)], .c (.o (.pdat 9 .str 0))]
def impl_declared_1.u (n : Nat) (v : VA impl_declared_1.a) (K : RES → Prop) : Prop := impl_declared_1.c n v.1.1 v.1.2.1 v.2.1 (fun r0 => K ⟨.c (.bool r0), []⟩)
theorem impl_declared_1_ok : ∀ n v K, impl_declared_1.u n v K → callM C X0 n 113 (fillA impl_declared_1.a v) K :=
 call_tell hX (fn := Tryz.f113) (c := bodyOf Tryz.f113) (by kernel_rfl) (by kernel_rfl) (A := impl_declared_1.a) (u := impl_declared_1.u) (fun _ _ h => h) (call := D50) (lp := fun n => noL) (D50_ok hX) (fun n => noL_ok) (fun n v K => by kernel_rfl)
def D51 (n : Nat) : CallF := orC 113 impl_declared_1.a (impl_declared_1.u n) (D50 n)
theorem D51_ok : ∀ n g a K, D51 n g a K → callM C X0 n g a K := fun n => orC_ok (impl_declared_1_ok hX n) (D50_ok hX n)
abbrev slices_IndexFunc_Decl__impl_declared_1.a : List TS := [.c (.o (.dat 63 (.prod .str (.int .i64)))), .c (.fn 113 [(false, 1)] 0 [.pdat 9 .str 0])]
def slices_IndexFunc_Decl__impl_declared_1.u (n : Nat) (v : VA slices_IndexFunc_Decl__impl_declared_1.a) (K : RES → Prop) : Prop := slices_IndexFunc_Decl__impl_declared_1.c n v.1 v.2.1.1 (fun r0 => K ⟨.c (.int .i64 r0), []⟩)
abbrev slices_IndexFunc_Decl__impl_declared_1.l2.s : ST := ⟨[(0, .c (.o (.dat 63 (.prod .str (.int .i64))))), (1, .c (.fn 113 [(false, 1)] 0 [.pdat 9 .str 0])), (7, .c (.o (.int .i64))), (8, .c (.o (.int .i64)))], [], [], [], []⟩
def slices_IndexFunc_Decl__impl_declared_1.l2.u (n : Nat) (v : slices_IndexFunc_Decl__impl_declared_1.l2.s.V) (K : X → St → Prop) : Prop := slices_IndexFunc_Decl__impl_declared_1.l2 n v.1.1 v.1.2.1.1 v.1.2.2.1 v.1.2.2.2.1 (K (.exit 0) ⟨[], [], [], [], []⟩) (fun y0 => K .ret ⟨[(4, .c (.int .i64 y0))], [], [], [], []⟩)
theorem slices_IndexFunc_Decl__impl_declared_1.l2_ok : ∀ n v K, slices_IndexFunc_Decl__impl_declared_1.l2.u n v K → loopM C X0 n 112 2 (slices_IndexFunc_Decl__impl_declared_1.l2.s.fill v) K :=
 loop_tell hX (fn := Tryz.f112) (c := bodyOf Tryz.f112) (a := loopOf Tryz.f112 2) (li := liOf (C.fi 112).loops 2) (by kernel_rfl) (by kernel_rfl) (of_decide_eq_true rfl) (by kernel_rfl) (by kernel_rfl) (T := slices_IndexFunc_Decl__impl_declared_1.l2.s) (u := slices_IndexFunc_Decl__impl_declared_1.l2.u) (fun _ _ h => h) (call := D51) (lp := fun n => noL) (D51_ok hX) (fun n => noL_ok) (fun n v K => by kernel_rfl)
theorem slices_IndexFunc_Decl__impl_declared_1_ok : ∀ n v K, slices_IndexFunc_Decl__impl_declared_1.u n v K → callM C X0 n 112 (fillA slices_IndexFunc_Decl__impl_declared_1.a v) K :=
 call_tell hX (fn := Tryz.f112) (c := bodyOf Tryz.f112) (by kernel_rfl) (by kernel_rfl) (A := slices_IndexFunc_Decl__impl_declared_1.a) (u := slices_IndexFunc_Decl__impl_declared_1.u) (fun _ _ h => h) (call := D51) (lp := fun n => orL 2 slices_IndexFunc_Decl__impl_declared_1.l2.s (slices_IndexFunc_Decl__impl_declared_1.l2.u n) noL) (D51_ok hX) (fun n => (orL_ok (slices_IndexFunc_Decl__impl_declared_1.l2_ok hX n) noL_ok)) (fun n v K => by kernel_rfl)
def D52 (n : Nat) : CallF := orC 112 slices_IndexFunc_Decl__impl_declared_1.a (slices_IndexFunc_Decl__impl_declared_1.u n) (D51 n)
theorem D52_ok : ∀ n g a K, D52 n g a K → callM C X0 n g a K := fun n => orC_ok (slices_IndexFunc_Decl__impl_declared_1_ok hX n) (D51_ok hX n)
abbrev impl_declared.a : List TS := [.c (.o (.dat 63 (.prod .str (.int .i64)))), .c (.o .str)]
def impl_declared.u (n : Nat) (v : VA impl_declared.a) (K : RES → Prop) : Prop := impl_declared.c n v.1 v.2.1 (fun r0 => K ⟨.c (.int .i64 r0), []⟩)
theorem impl_declared_ok : ∀ n v K, impl_declared.u n v K → callM C X0 n 94 (fillA impl_declared.a v) K :=
 call_tell hX (fn := Tryz.f94) (c := bodyOf Tryz.f94) (by kernel_rfl) (by kernel_rfl) (A := impl_declared.a) (u := impl_declared.u) (fun _ _ h => h) (call := D52) (lp := fun n => noL) (D52_ok hX) (fun n => noL_ok) (fun n v K => by kernel_rfl)
def D53 (n : Nat) : CallF := orC 94 impl_declared.a (impl_declared.u n) (D52 n)
theorem D53_ok : ∀ n g a K, D53 n g a K → callM C X0 n g a K := fun n => orC_ok (impl_declared_ok hX n) (D52_ok hX n)
abbrev impl_DeclsOk.a : List TS := [.c (.o (.dat 63 (.prod .str (.int .i64))))]
def impl_DeclsOk.u (n : Nat) (v : VA impl_DeclsOk.a) (K : RES → Prop) : Prop := impl_DeclsOk.c n v.1 (fun r0 => K ⟨.c (.bool r0), []⟩)
abbrev impl_DeclsOk.l5.s : ST := ⟨[(0, .c (.o (.dat 63 (.prod .str (.int .i64))))), (3, .c (.o (.int .i64))), (9, .c (.o (.dat 63 (.prod .str (.int .i64))))), (10, .c (.o (.int .i64))), (11, .c (.o (.int .i64)))], [], [], [], []⟩
def impl_DeclsOk.l5.u (n : Nat) (v : impl_DeclsOk.l5.s.V) (K : X → St → Prop) : Prop := impl_DeclsOk.l5 n v.1.1 v.1.2.2.1 v.1.2.2.2.1 v.1.2.1 v.1.2.2.2.2.1 (fun y0 => K (.exit 0) ⟨[(3, .c (.int .i64 y0))], [], [], [], []⟩) (fun y0 => K .ret ⟨[(2, .c (.bool y0))], [], [], [], []⟩)
theorem impl_DeclsOk.l5_ok : ∀ n v K, impl_DeclsOk.l5.u n v K → loopM C X0 n 76 5 (impl_DeclsOk.l5.s.fill v) K :=
 loop_tell hX (fn := Tryz.f76) (c := bodyOf Tryz.f76) (a := loopOf Tryz.f76 5) (li := liOf (C.fi 76).loops 5) (by kernel_rfl) (by kernel_rfl) (of_decide_eq_true rfl) (by kernel_rfl) (by kernel_rfl) (T := impl_DeclsOk.l5.s) (u := impl_DeclsOk.l5.u) (fun _ _ h => h) (call := D53) (lp := fun n => noL) (D53_ok hX) (fun n => noL_ok) (fun n v K => by kernel_rfl)
theorem impl_DeclsOk_ok : ∀ n v K, impl_DeclsOk.u n v K → callM C X0 n 76 (fillA impl_DeclsOk.a v) K :=
 call_tell hX (fn := Tryz.f76) (c := bodyOf Tryz.f76) (by kernel_rfl) (by kernel_rfl) (A := impl_DeclsOk.a) (u := impl_DeclsOk.u) (fun _ _ h => h) (call := D53) (lp := fun n => orL 5 impl_DeclsOk.l5.s (impl_DeclsOk.l5.u n) noL) (D53_ok hX) (fun n => (orL_ok (impl_DeclsOk.l5_ok hX n) noL_ok)) (fun n v K => by kernel_rfl)
def D54 (n : Nat) : CallF := orC 76 impl_DeclsOk.a (impl_DeclsOk.u n) (D53 n)
theorem D54_ok : ∀ n g a K, D54 n g a K → callM C X0 n g a K := fun n => orC_ok (impl_DeclsOk_ok hX n) (D53_ok hX n)
abbrev impl_wordsFor.a : List TS := [.c (.o (.int .i64))]
def impl_wordsFor.u (n : Nat) (v : VA impl_wordsFor.a) (K : RES → Prop) : Prop := impl_wordsFor.c n v.1 (fun r0 => K ⟨.c (.int .i64 r0), []⟩)
theorem impl_wordsFor_ok : ∀ n v K, impl_wordsFor.u n v K → callM C X0 n 114 (fillA impl_wordsFor.a v) K :=
 call_tell hX (fn := Tryz.f114) (c := bodyOf Tryz.f114) (by kernel_rfl) (by kernel_rfl) (A := impl_wordsFor.a) (u := impl_wordsFor.u) (fun _ _ h => h) (call := D54) (lp := fun n => noL) (D54_ok hX) (fun n => noL_ok) (fun n v K => by kernel_rfl)
def D55 (n : Nat) : CallF := orC 114 impl_wordsFor.a (impl_wordsFor.u n) (D54 n)
theorem D55_ok : ∀ n g a K, D55 n g a K → callM C X0 n g a K := fun n => orC_ok (impl_wordsFor_ok hX n) (D54_ok hX n)
abbrev impl_BitsOk.a : List TS := [.a [.o (.int .i64), .o (.dat 115 (.int .u64))]]
def impl_BitsOk.u (n : Nat) (v : VA impl_BitsOk.a) (K : RES → Prop) : Prop := impl_BitsOk.c n v.1.1 v.1.2.1 (fun r0 => K ⟨.c (.bool r0), []⟩)
theorem impl_BitsOk_ok : ∀ n v K, impl_BitsOk.u n v K → callM C X0 n 95 (fillA impl_BitsOk.a v) K :=
 call_tell hX (fn := Tryz.f95) (c := bodyOf Tryz.f95) (by kernel_rfl) (by kernel_rfl) (A := impl_BitsOk.a) (u := impl_BitsOk.u) (fun _ _ h => h) (call := D55) (lp := fun n => noL) (D55_ok hX) (fun n => noL_ok) (fun n v K => by kernel_rfl)
def D56 (n : Nat) : CallF := orC 95 impl_BitsOk.a (impl_BitsOk.u n) (D55 n)
theorem D56_ok : ∀ n g a K, D56 n g a K → callM C X0 n g a K := fun n => orC_ok (impl_BitsOk_ok hX n) (D55_ok hX n)
abbrev impl_valuesOk.a : List TS := [.c (.o (.dat 63 (.prod .str (.int .i64)))), .c (.o (.dat 83 (.prod (.int .i64) (.sl 115 (.int .u64)))))]
def impl_valuesOk.u (n : Nat) (v : VA impl_valuesOk.a) (K : RES → Prop) : Prop := impl_valuesOk.c n v.1 v.2.1 (fun r0 => K ⟨.c (.bool r0), []⟩)
abbrev impl_valuesOk.l4.s : ST := ⟨[(0, .c (.o (.dat 63 (.prod .str (.int .i64))))), (12, .c (.o (.dat 83 (.prod (.int .i64) (.sl 115 (.int .u64)))))), (13, .c (.o (.int .i64))), (14, .c (.o (.int .i64)))], [], [], [], []⟩
def impl_valuesOk.l4.u (n : Nat) (v : impl_valuesOk.l4.s.V) (K : X → St → Prop) : Prop := impl_valuesOk.l4 n v.1.1 v.1.2.1 v.1.2.2.1 v.1.2.2.2.1 (K (.exit 0) ⟨[], [], [], [], []⟩) (fun y0 => K .ret ⟨[(4, .c (.bool y0))], [], [], [], []⟩)
theorem impl_valuesOk.l4_ok : ∀ n v K, impl_valuesOk.l4.u n v K → loopM C X0 n 77 4 (impl_valuesOk.l4.s.fill v) K :=
 loop_tell hX (fn := Tryz.f77) (c := bodyOf Tryz.f77) (a := loopOf Tryz.f77 4) (li := liOf (C.fi 77).loops 4) (by kernel_rfl) (by kernel_rfl) (of_decide_eq_true rfl) (by kernel_rfl) (by kernel_rfl) (T := impl_valuesOk.l4.s) (u := impl_valuesOk.l4.u) (fun _ _ h => h) (call := D56) (lp := fun n => noL) (D56_ok hX) (fun n => noL_ok) (fun n v K => by kernel_rfl)
theorem impl_valuesOk_ok : ∀ n v K, impl_valuesOk.u n v K → callM C X0 n 77 (fillA impl_valuesOk.a v) K :=
 call_tell hX (fn := Tryz.f77) (c := bodyOf Tryz.f77) (by kernel_rfl) (by kernel_rfl) (A := impl_valuesOk.a) (u := impl_valuesOk.u) (fun _ _ h => h) (call := D56) (lp := fun n => orL 4 impl_valuesOk.l4.s (impl_valuesOk.l4.u n) noL) (D56_ok hX) (fun n => (orL_ok (impl_valuesOk.l4_ok hX n) noL_ok)) (fun n v K => by kernel_rfl)
def D57 (n : Nat) : CallF := orC 77 impl_valuesOk.a (impl_valuesOk.u n) (D56 n)
theorem D57_ok : ∀ n g a K, D57 n g a K → callM C X0 n g a K := fun n => orC_ok (impl_valuesOk_ok hX n) (D56_ok hX n)
abbrev impl_ValuesOk.a : List TS := [.c (.o (.dat 63 (.prod .str (.int .i64)))), .c (.o (.dat 83 (.prod (.int .i64) (.sl 115 (.int .u64)))))]
def impl_ValuesOk.u (n : Nat) (v : VA impl_ValuesOk.a) (K : RES → Prop) : Prop := impl_ValuesOk.c n v.1 v.2.1 (fun r0 => K ⟨.c (.bool r0), []⟩)
theorem impl_ValuesOk_ok : ∀ n v K, impl_ValuesOk.u n v K → callM C X0 n 45 (fillA impl_ValuesOk.a v) K :=
 call_tell hX (fn := Tryz.f45) (c := bodyOf Tryz.f45) (by kernel_rfl) (by kernel_rfl) (A := impl_ValuesOk.a) (u := impl_ValuesOk.u) (fun _ _ h => h) (call := D57) (lp := fun n => noL) (D57_ok hX) (fun n => noL_ok) (fun n v K => by kernel_rfl)
def D58 (n : Nat) : CallF := orC 45 impl_ValuesOk.a (impl_ValuesOk.u n) (D57 n)
theorem D58_ok : ∀ n g a K, D58 n g a K → callM C X0 n g a K := fun n => orC_ok (impl_ValuesOk_ok hX n) (D57_ok hX n)
abbrev impl_TNode_width.a : List TS := [.c (.o (.pdat 114 (.prod (.int .i64) (.prod (.int .i64) (.prod (.int .i64) (.prod (.int .i64) (.prod (.int .i64) (.prod (.sl 115 (.int .u64)) (.sl 2 (.int .i64)))))))) 0)), .c (.o (.dat 63 (.prod .str (.int .i64)))), .c (.o (.dat 2 (.int .i64)))]
def impl_TNode_width.u (n : Nat) (v : VA impl_TNode_width.a) (K : RES → Prop) : Prop := impl_TNode_width.c n v.1 v.2.1 v.2.2.1 (fun r0 => K ⟨.c (.int .i64 r0), []⟩)
abbrev impl_TNode_width.l11.s : ST := ⟨[(8, .c (.o (.int .i64))), (80, .c (.o (.dat 2 (.int .i64)))), (81, .c (.o (.int .i64))), (82, .c (.o (.int .i64)))], [], [], [], []⟩
def impl_TNode_width.l11.u (n : Nat) (v : impl_TNode_width.l11.s.V) (K : X → St → Prop) : Prop := impl_TNode_width.l11 n v.1.2.1 v.1.2.2.1 v.1.1 v.1.2.2.2.1 (fun y0 => K (.exit 1) ⟨[(8, .c (.int .i64 y0))], [], [], [], []⟩)
abbrev impl_TNode_width.q21.s : ST := ⟨[(0, .c (.o (.pdat 114 (.prod (.int .i64) (.prod (.int .i64) (.prod (.int .i64) (.prod (.int .i64) (.prod (.int .i64) (.prod (.sl 115 (.int .u64)) (.sl 2 (.int .i64)))))))) 0))), (7, .c (.o (.int .i64))), (137, .c (.o .bool))], [], [], [], []⟩
def impl_TNode_width.q21.u (n : Nat) (v : impl_TNode_width.q21.s.V) (K : X → St → Prop) : Prop := impl_TNode_width.q21 n v.1.1 v.1.2.1 v.1.2.2.1 (fun y0 => K .ret ⟨[(6, .c (.int .i64 y0))], [], [], [], []⟩) (K .normal ⟨[], [], [], [], []⟩)
abbrev impl_TNode_width.q9.s : ST := ⟨[(0, .c (.o (.pdat 114 (.prod (.int .i64) (.prod (.int .i64) (.prod (.int .i64) (.prod (.int .i64) (.prod (.int .i64) (.prod (.sl 115 (.int .u64)) (.sl 2 (.int .i64)))))))) 0))), (2, .c (.o (.dat 2 (.int .i64)))), (7, .c (.o (.int .i64))), (69, .c (.o .bool))], [], [], [], []⟩
def impl_TNode_width.q9.u (n : Nat) (v : impl_TNode_width.q9.s.V) (K : X → St → Prop) : Prop := impl_TNode_width.q9 n v.1.1 v.1.2.1 v.1.2.2.1 v.1.2.2.2.1 (fun y0 => K .ret ⟨[(6, .c (.int .i64 y0))], [], [], [], []⟩) (K .normal ⟨[], [], [], [], []⟩)
abbrev impl_TNode_width.q5.s : ST := ⟨[(0, .c (.o (.pdat 114 (.prod (.int .i64) (.prod (.int .i64) (.prod (.int .i64) (.prod (.int .i64) (.prod (.int .i64) (.prod (.sl 115 (.int .u64)) (.sl 2 (.int .i64)))))))) 0))), (1, .c (.o (.dat 63 (.prod .str (.int .i64))))), (2, .c (.o (.dat 2 (.int .i64)))), (7, .c (.o (.int .i64))), (17, .c (.o .bool))], [], [], [], []⟩
def impl_TNode_width.q5.u (n : Nat) (v : impl_TNode_width.q5.s.V) (K : X → St → Prop) : Prop := impl_TNode_width.q5 n v.1.1 v.1.2.1 v.1.2.2.1 v.1.2.2.2.1 v.1.2.2.2.2.1 (fun y0 => K .ret ⟨[(6, .c (.int .i64 y0))], [], [], [], []⟩) (K .normal ⟨[], [], [], [], []⟩)
theorem impl_TNode_width.l11_ok : ∀ n v K, impl_TNode_width.l11.u n v K → loopM C X0 n 115 11 (impl_TNode_width.l11.s.fill v) K :=
 loop_tell hX (fn := Tryz.f115) (c := bodyOf Tryz.f115) (a := loopOf Tryz.f115 11) (li := liOf (C.fi 115).loops 11) (by kernel_rfl) (by kernel_rfl) (of_decide_eq_true rfl) (by kernel_rfl) (by kernel_rfl) (T := impl_TNode_width.l11.s) (u := impl_TNode_width.l11.u) (fun _ _ h => h) (call := D58) (lp := fun n => noL) (D58_ok hX) (fun n => noL_ok) (fun n v K => by kernel_rfl)
theorem impl_TNode_width.q21_ok : ∀ n v K, impl_TNode_width.q21.u n v K → loopM C X0 n 115 1000021 (impl_TNode_width.q21.s.fill v) K :=
 cut_tell hX (fn := Tryz.f115) (c := bodyOf Tryz.f115) (a := cutOf Tryz.f115 21) (li := liOf (C.fi 115).loops 1000021) (by kernel_rfl) (by kernel_rfl) (of_decide_eq_true rfl) (by kernel_rfl) (by kernel_rfl) (T := impl_TNode_width.q21.s) (u := impl_TNode_width.q21.u) (fun _ _ h => h) (call := D58) (lp := fun n => noL) (D58_ok hX) (fun n => noL_ok) (fun n v K => by kernel_rfl)
theorem impl_TNode_width.q9_ok : ∀ n v K, impl_TNode_width.q9.u n v K → loopM C X0 n 115 1000009 (impl_TNode_width.q9.s.fill v) K :=
 cut_tell hX (fn := Tryz.f115) (c := bodyOf Tryz.f115) (a := cutOf Tryz.f115 9) (li := liOf (C.fi 115).loops 1000009) (by kernel_rfl) (by kernel_rfl) (of_decide_eq_true rfl) (by kernel_rfl) (by kernel_rfl) (T := impl_TNode_width.q9.s) (u := impl_TNode_width.q9.u) (fun _ _ h => h) (call := D58) (lp := fun n => orL 11 impl_TNode_width.l11.s (impl_TNode_width.l11.u n) (orL 1000021 impl_TNode_width.q21.s (impl_TNode_width.q21.u n) noL)) (D58_ok hX) (fun n => (orL_ok (impl_TNode_width.l11_ok hX n) (orL_ok (impl_TNode_width.q21_ok hX n) noL_ok))) (fun n v K => by kernel_rfl)
theorem impl_TNode_width.q5_ok : ∀ n v K, impl_TNode_width.q5.u n v K → loopM C X0 n 115 1000005 (impl_TNode_width.q5.s.fill v) K :=
 cut_tell hX (fn := Tryz.f115) (c := bodyOf Tryz.f115) (a := cutOf Tryz.f115 5) (li := liOf (C.fi 115).loops 1000005) (by kernel_rfl) (by kernel_rfl) (of_decide_eq_true rfl) (by kernel_rfl) (by kernel_rfl) (T := impl_TNode_width.q5.s) (u := impl_TNode_width.q5.u) (fun _ _ h => h) (call := D58) (lp := fun n => orL 1000009 impl_TNode_width.q9.s (impl_TNode_width.q9.u n) noL) (D58_ok hX) (fun n => (orL_ok (impl_TNode_width.q9_ok hX n) noL_ok)) (fun n v K => by kernel_rfl)
theorem impl_TNode_width_ok : ∀ n v K, impl_TNode_width.u n v K → callM C X0 n 115 (fillA impl_TNode_width.a v) K :=
 call_tell hX (fn := Tryz.f115) (c := bodyOf Tryz.f115) (by kernel_rfl) (by kernel_rfl) (A := impl_TNode_width.a) (u := impl_TNode_width.u) (fun _ _ h => h) (call := D58) (lp := fun n => orL 1000005 impl_TNode_width.q5.s (impl_TNode_width.q5.u n) noL) (D58_ok hX) (fun n => (orL_ok (impl_TNode_width.q5_ok hX n) noL_ok)) (fun n v K => by kernel_rfl)
def D59 (n : Nat) : CallF := orC 115 impl_TNode_width.a (impl_TNode_width.u n) (D58 n)
theorem D59_ok : ∀ n g a K, D59 n g a K → callM C X0 n g a K := fun n => orC_ok (impl_TNode_width_ok hX n) (D58_ok hX n)
abbrev impl_TNode_plain.a : List TS := [.c (.o (.pdat 114 (.prod (.int .i64) (.prod (.int .i64) (.prod (.int .i64) (.prod (.int .i64) (.prod (.int .i64) (.prod (.sl 115 (.int .u64)) (.sl 2 (.int .i64)))))))) 0))]
def impl_TNode_plain.u (n : Nat) (v : VA impl_TNode_plain.a) (K : RES → Prop) : Prop := impl_TNode_plain.c n v.1 (fun r0 => K ⟨.c (.bool r0), []⟩)
abbrev impl_TNode_plain.q3.s : ST := ⟨[(0, .c (.o (.pdat 114 (.prod (.int .i64) (.prod (.int .i64) (.prod (.int .i64) (.prod (.int .i64) (.prod (.int .i64) (.prod (.sl 115 (.int .u64)) (.sl 2 (.int .i64)))))))) 0))), (52, .c (.o .bool))], [], [], [], []⟩
def impl_TNode_plain.q3.u (n : Nat) (v : impl_TNode_plain.q3.s.V) (K : X → St → Prop) : Prop := impl_TNode_plain.q3 n v.1.1 v.1.2.1 (fun y0 => K .ret ⟨[(2, .c (.bool y0))], [], [], [], []⟩) (fun y0 => K .normal ⟨[(0, .c (.pdat 114 (.prod (.int .i64) (.prod (.int .i64) (.prod (.int .i64) (.prod (.int .i64) (.prod (.int .i64) (.prod (.sl 115 (.int .u64)) (.sl 2 (.int .i64)))))))) y0 0))], [], [], [], []⟩)
abbrev impl_TNode_plain.q2.s : ST := ⟨[(0, .c (.o (.pdat 114 (.prod (.int .i64) (.prod (.int .i64) (.prod (.int .i64) (.prod (.int .i64) (.prod (.int .i64) (.prod (.sl 115 (.int .u64)) (.sl 2 (.int .i64)))))))) 0))), (3, .c (.o .bool))], [], [], [], []⟩
def impl_TNode_plain.q2.u (n : Nat) (v : impl_TNode_plain.q2.s.V) (K : X → St → Prop) : Prop := impl_TNode_plain.q2 n v.1.1 v.1.2.1 (fun y0 => K .ret ⟨[(2, .c (.bool y0))], [], [], [], []⟩)
theorem impl_TNode_plain.q3_ok : ∀ n v K, impl_TNode_plain.q3.u n v K → loopM C X0 n 116 1000003 (impl_TNode_plain.q3.s.fill v) K :=
 cut_tell hX (fn := Tryz.f116) (c := bodyOf Tryz.f116) (a := cutOf Tryz.f116 3) (li := liOf (C.fi 116).loops 1000003) (by kernel_rfl) (by kernel_rfl) (of_decide_eq_true rfl) (by kernel_rfl) (by kernel_rfl) (T := impl_TNode_plain.q3.s) (u := impl_TNode_plain.q3.u) (fun _ _ h => h) (call := D59) (lp := fun n => noL) (D59_ok hX) (fun n => noL_ok) (fun n v K => by kernel_rfl)
theorem impl_TNode_plain.q2_ok : ∀ n v K, impl_TNode_plain.q2.u n v K → loopM C X0 n 116 1000002 (impl_TNode_plain.q2.s.fill v) K :=
 cut_tell hX (fn := Tryz.f116) (c := bodyOf Tryz.f116) (a := cutOf Tryz.f116 2) (li := liOf (C.fi 116).loops 1000002) (by kernel_rfl) (by kernel_rfl) (of_decide_eq_true rfl) (by kernel_rfl) (by kernel_rfl) (T := impl_TNode_plain.q2.s) (u := impl_TNode_plain.q2.u) (fun _ _ h => h) (call := D59) (lp := fun n => orL 1000003 impl_TNode_plain.q3.s (impl_TNode_plain.q3.u n) noL) (D59_ok hX) (fun n => (orL_ok (impl_TNode_plain.q3_ok hX n) noL_ok)) (fun n v K => by kernel_rfl)
theorem impl_TNode_plain_ok : ∀ n v K, impl_TNode_plain.u n v K → callM C X0 n 116 (fillA impl_TNode_plain.a v) K :=
 call_tell hX (fn := Tryz.f116) (c := bodyOf Tryz.f116) (by kernel_rfl) (by kernel_rfl) (A := impl_TNode_plain.a) (u := impl_TNode_plain.u) (fun _ _ h => h) (call := D59) (lp := fun n => orL 1000002 impl_TNode_plain.q2.s (impl_TNode_plain.q2.u n) noL) (D59_ok hX) (fun n => (orL_ok (impl_TNode_plain.q2_ok hX n) noL_ok)) (fun n v K => by kernel_rfl)
def D60 (n : Nat) : CallF := orC 116 impl_TNode_plain.a (impl_TNode_plain.u n) (D59 n)
theorem D60_ok : ∀ n g a K, D60 n g a K → callM C X0 n g a K := fun n => orC_ok (impl_TNode_plain_ok hX n) (D59_ok hX n)
abbrev slices_Index_bool.a : List TS := [.c (.o (.dat 4 .bool)), .c (.o .bool)]
def slices_Index_bool.u (n : Nat) (v : VA slices_Index_bool.a) (K : RES → Prop) : Prop := slices_Index_bool.c n v.1 v.2.1 (fun r0 => K ⟨.c (.int .i64 r0), []⟩)
abbrev slices_Index_bool.l2.s : ST := ⟨[(0, .c (.o (.dat 4 .bool))), (1, .c (.o .bool)), (7, .c (.o (.int .i64))), (8, .c (.o (.int .i64)))], [], [], [], []⟩
def slices_Index_bool.l2.u (n : Nat) (v : slices_Index_bool.l2.s.V) (K : X → St → Prop) : Prop := slices_Index_bool.l2 n v.1.1 v.1.2.1 v.1.2.2.1 v.1.2.2.2.1 (K (.exit 0) ⟨[], [], [], [], []⟩) (fun y0 => K .ret ⟨[(4, .c (.int .i64 y0))], [], [], [], []⟩)
theorem slices_Index_bool.l2_ok : ∀ n v K, slices_Index_bool.l2.u n v K → loopM C X0 n 129 2 (slices_Index_bool.l2.s.fill v) K :=
 loop_tell hX (fn := Tryz.f129) (c := bodyOf Tryz.f129) (a := loopOf Tryz.f129 2) (li := liOf (C.fi 129).loops 2) (by kernel_rfl) (by kernel_rfl) (of_decide_eq_true rfl) (by kernel_rfl) (by kernel_rfl) (T := slices_Index_bool.l2.s) (u := slices_Index_bool.l2.u) (fun _ _ h => h) (call := D60) (lp := fun n => noL) (D60_ok hX) (fun n => noL_ok) (fun n v K => by kernel_rfl)
theorem slices_Index_bool_ok : ∀ n v K, slices_Index_bool.u n v K → callM C X0 n 129 (fillA slices_Index_bool.a v) K :=
 call_tell hX (fn := Tryz.f129) (c := bodyOf Tryz.f129) (by kernel_rfl) (by kernel_rfl) (A := slices_Index_bool.a) (u := slices_Index_bool.u) (fun _ _ h => h) (call := D60) (lp := fun n => orL 2 slices_Index_bool.l2.s (slices_Index_bool.l2.u n) noL) (D60_ok hX) (fun n => (orL_ok (slices_Index_bool.l2_ok hX n) noL_ok)) (fun n v K => by kernel_rfl)
def D61 (n : Nat) : CallF := orC 129 slices_Index_bool.a (slices_Index_bool.u n) (D60 n)
theorem D61_ok : ∀ n g a K, D61 n g a K → callM C X0 n g a K := fun n => orC_ok (slices_Index_bool_ok hX n) (D60_ok hX n)
abbrev slices_Contains_bool.a : List TS := [.c (.o (.dat 4 .bool)), .c (.o .bool)]
def slices_Contains_bool.u (n : Nat) (v : VA slices_Contains_bool.a) (K : RES → Prop) : Prop := slices_Contains_bool.c n v.1 v.2.1 (fun r0 => K ⟨.c (.bool r0), []⟩)
theorem slices_Contains_bool_ok : ∀ n v K, slices_Contains_bool.u n v K → callM C X0 n 117 (fillA slices_Contains_bool.a v) K :=
 call_tell hX (fn := Tryz.f117) (c := bodyOf Tryz.f117) (by kernel_rfl) (by kernel_rfl) (A := slices_Contains_bool.a) (u := slices_Contains_bool.u) (fun _ _ h => h) (call := D61) (lp := fun n => noL) (D61_ok hX) (fun n => noL_ok) (fun n v K => by kernel_rfl)
def D62 (n : Nat) : CallF := orC 117 slices_Contains_bool.a (slices_Contains_bool.u n) (D61 n)
theorem D62_ok : ∀ n g a K, D62 n g a K → callM C X0 n g a K := fun n => orC_ok (slices_Contains_bool_ok hX n) (D61_ok hX n)
abbrev impl_widths.a : List TS := [.c (.o (.dat 63 (.prod .str (.int .i64)))), .a [.o (.dat 114 (.prod (.int .i64) (.prod (.int .i64) (.prod (.int .i64) (.prod (.int .i64) (.prod (.int .i64) (.prod (.sl 115 (.int .u64)) (.sl 2 (.int .i64)))))))))]]
def impl_widths.u (n : Nat) (v : VA impl_widths.a) (K : RES → Prop) : Prop := impl_widths.c n v.1 v.2.1.1 (fun r0 r1 => K ⟨.tup [.c (.row ⟨2, .int .i64, r0, 99, none⟩), .c (.bool r1)], []⟩)
abbrev impl_widths.l13.s : ST := ⟨[(0, .c (.o (.dat 63 (.prod .str (.int .i64))))), (3, .c (.o (.pbox 3 0))), (6, .c (.o (.int .i64))), (7, .c (.o (.own 768))), (8, .c (.o (.own 832))), (9, .c (.o (.int .i64))), (10, .c (.o (.pdat 114 (.prod (.int .i64) (.prod (.int .i64) (.prod (.int .i64) (.prod (.int .i64) (.prod (.int .i64) (.prod (.sl 115 (.int .u64)) (.sl 2 (.int .i64)))))))) 0))), (11, .c (.o (.own 1536))), (29, .c (.o (.int .i64))), (30, .c (.o (.int .i64))), (52, .c (.o (.dat 2 (.int .i64)))), (53, .c (.o (.int .i64))), (54, .c (.o (.int .i64)))], [⟨768, 2, .int .i64, 99⟩, ⟨832, 4, .bool, 99⟩, ⟨1536, 2, .int .i64, 99⟩], [⟨3, 67, [.o (.dat 114 (.prod (.int .i64) (.prod (.int .i64) (.prod (.int .i64) (.prod (.int .i64) (.prod (.int .i64) (.prod (.sl 115 (.int .u64)) (.sl 2 (.int .i64)))))))))], false⟩], [], []⟩
def impl_widths.l13.u (n : Nat) (v : impl_widths.l13.s.V) (K : X → St → Prop) : Prop := impl_widths.l13 n v.1.1 v.1.2.2.1 v.1.2.2.2.2.2.1 v.1.2.2.2.2.2.2.1 v.1.2.2.2.2.2.2.2.2.1 v.1.2.2.2.2.2.2.2.2.2.1 v.1.2.2.2.2.2.2.2.2.2.2.1 v.1.2.2.2.2.2.2.2.2.2.2.2.1 v.2.1.1 v.2.2.1.1 v.1.2.2.2.2.2.2.2.2.2.2.2.2.1 v.2.1.2.1 v.2.1.2.2.1 (fun y0 y1 y2 y3 y4 y5 y6 y7 y8 y9 => K (.exit 2) ⟨[(0, .c (.dat 63 (.prod .str (.int .i64)) y0)), (3, .c (.pbox 3 0)), (6, .c (.int .i64 y1)), (7, .c (.own 768)), (8, .c (.own 832)), (9, .c (.int .i64 y2)), (10, .c (.pdat 114 (.prod (.int .i64) (.prod (.int .i64) (.prod (.int .i64) (.prod (.int .i64) (.prod (.int .i64) (.prod (.sl 115 (.int .u64)) (.sl 2 (.int .i64)))))))) y3 0)), (11, .c (.own 1536)), (29, .c (.int .i64 y4)), (30, .c (.int .i64 y5))], [(768, ⟨2, .int .i64, y6, 99, none⟩), (832, ⟨4, .bool, y7, 99, none⟩), (1536, ⟨2, .int .i64, y8, 99, none⟩)], [(3, ⟨67, [.dat 114 (.prod (.int .i64) (.prod (.int .i64) (.prod (.int .i64) (.prod (.int .i64) (.prod (.int .i64) (.prod (.sl 115 (.int .u64)) (.sl 2 (.int .i64)))))))) y9], false⟩)], [], []⟩) (fun y0 y1 => K .ret ⟨[(4, .c (.own 128)), (5, .c (.bool y0))], [(128, ⟨2, .int .i64, y1, 99, none⟩)], [], [], []⟩)
abbrev impl_widths.l6.s : ST := ⟨[(0, .c (.o (.dat 63 (.prod .str (.int .i64))))), (3, .c (.o (.pbox 3 0))), (6, .c (.o (.int .i64))), (7, .c (.o (.own 768))), (8, .c (.o (.own 832))), (29, .c (.o (.int .i64))), (30, .c (.o (.int .i64)))], [⟨768, 2, .int .i64, 99⟩, ⟨832, 4, .bool, 99⟩], [⟨3, 67, [.o (.dat 114 (.prod (.int .i64) (.prod (.int .i64) (.prod (.int .i64) (.prod (.int .i64) (.prod (.int .i64) (.prod (.sl 115 (.int .u64)) (.sl 2 (.int .i64)))))))))], false⟩], [], []⟩
def impl_widths.l6.u (n : Nat) (v : impl_widths.l6.s.V) (K : X → St → Prop) : Prop := impl_widths.l6 n v.1.1 v.1.2.2.1 v.1.2.2.2.2.2.1 v.1.2.2.2.2.2.2.1 v.2.1.1 v.2.1.2.1 v.2.2.1.1 (fun y0 y1 y2 => K (.exit 0) ⟨[(6, .c (.int .i64 y0)), (7, .c (.own 768)), (8, .c (.own 832))], [(768, ⟨2, .int .i64, y1, 99, none⟩), (832, ⟨4, .bool, y2, 99, none⟩)], [], [], []⟩) (fun y0 y1 => K .ret ⟨[(4, .c (.own 128)), (5, .c (.bool y0))], [(128, ⟨2, .int .i64, y1, 99, none⟩)], [], [], []⟩)
theorem impl_widths.l13_ok : ∀ n v K, impl_widths.l13.u n v K → loopM C X0 n 96 13 (impl_widths.l13.s.fill v) K :=
 loop_tell hX (fn := Tryz.f96) (c := bodyOf Tryz.f96) (a := loopOf Tryz.f96 13) (li := liOf (C.fi 96).loops 13) (by kernel_rfl) (by kernel_rfl) (of_decide_eq_true rfl) (by kernel_rfl) (by kernel_rfl) (T := impl_widths.l13.s) (u := impl_widths.l13.u) (fun _ _ h => h) (call := D62) (lp := fun n => noL) (D62_ok hX) (fun n => noL_ok) (fun n v K => by kernel_rfl)
theorem impl_widths.l6_ok : ∀ n v K, impl_widths.l6.u n v K → loopM C X0 n 96 6 (impl_widths.l6.s.fill v) K :=
 loop_tell hX (fn := Tryz.f96) (c := bodyOf Tryz.f96) (a := loopOf Tryz.f96 6) (li := liOf (C.fi 96).loops 6) (by kernel_rfl) (by kernel_rfl) (of_decide_eq_true rfl) (by kernel_rfl) (by kernel_rfl) (T := impl_widths.l6.s) (u := impl_widths.l6.u) (fun _ _ h => h) (call := D62) (lp := fun n => orL 13 impl_widths.l13.s (impl_widths.l13.u n) noL) (D62_ok hX) (fun n => (orL_ok (impl_widths.l13_ok hX n) noL_ok)) (fun n v K => by kernel_rfl)
theorem impl_widths_ok : ∀ n v K, impl_widths.u n v K → callM C X0 n 96 (fillA impl_widths.a v) K :=
 call_tell hX (fn := Tryz.f96) (c := bodyOf Tryz.f96) (by kernel_rfl) (by kernel_rfl) (A := impl_widths.a) (u := impl_widths.u) (fun _ _ h => h) (call := D62) (lp := fun n => orL 6 impl_widths.l6.s (impl_widths.l6.u n) noL) (D62_ok hX) (fun n => (orL_ok (impl_widths.l6_ok hX n) noL_ok)) (fun n v K => by kernel_rfl)
def D63 (n : Nat) : CallF := orC 96 impl_widths.a (impl_widths.u n) (D62 n)
theorem D63_ok : ∀ n g a K, D63 n g a K → callM C X0 n g a K := fun n => orC_ok (impl_widths_ok hX n) (D62_ok hX n)
abbrev impl_widthOf.a : List TS := [.c (.o (.dat 63 (.prod .str (.int .i64)))), .a [.o (.dat 114 (.prod (.int .i64) (.prod (.int .i64) (.prod (.int .i64) (.prod (.int .i64) (.prod (.int .i64) (.prod (.sl 115 (.int .u64)) (.sl 2 (.int .i64)))))))))]]
def impl_widthOf.u (n : Nat) (v : VA impl_widthOf.a) (K : RES → Prop) : Prop := impl_widthOf.c n v.1 v.2.1.1 (fun r0 => K ⟨.c (.int .i64 r0), []⟩)
theorem impl_widthOf_ok : ∀ n v K, impl_widthOf.u n v K → callM C X0 n 78 (fillA impl_widthOf.a v) K :=
 call_tell hX (fn := Tryz.f78) (c := bodyOf Tryz.f78) (by kernel_rfl) (by kernel_rfl) (A := impl_widthOf.a) (u := impl_widthOf.u) (fun _ _ h => h) (call := D63) (lp := fun n => noL) (D63_ok hX) (fun n => noL_ok) (fun n v K => by kernel_rfl)
def D64 (n : Nat) : CallF := orC 78 impl_widthOf.a (impl_widthOf.u n) (D63 n)
theorem D64_ok : ∀ n g a K, D64 n g a K → callM C X0 n g a K := fun n => orC_ok (impl_widthOf_ok hX n) (D63_ok hX n)
abbrev impl_literalsOk.a : List TS := [.c (.o (.dat 63 (.prod .str (.int .i64)))), .c (.o (.dat 69 (.prod (.int .i64) (.prod .bool (.prod (.sl 114 (.prod (.int .i64) (.prod (.int .i64) (.prod (.int .i64) (.prod (.int .i64) (.prod (.int .i64) (.prod (.sl 115 (.int .u64)) (.sl 2 (.int .i64))))))))) (.sl 114 (.prod (.int .i64) (.prod (.int .i64) (.prod (.int .i64) (.prod (.int .i64) (.prod (.int .i64) (.prod (.sl 115 (.int .u64)) (.sl 2 (.int .i64))))))))))))))]
def impl_literalsOk.u (n : Nat) (v : VA impl_literalsOk.a) (K : RES → Prop) : Prop := impl_literalsOk.c n v.1 v.2.1 (fun r0 => K ⟨.c (.bool r0), []⟩)
abbrev impl_literalsOk.l5.s : ST := ⟨[(0, .c (.o (.dat 63 (.prod .str (.int .i64))))), (5, .c (.o (.int .i64))), (12, .c (.o (.dat 69 (.prod (.int .i64) (.prod .bool (.prod (.sl 114 (.prod (.int .i64) (.prod (.int .i64) (.prod (.int .i64) (.prod (.int .i64) (.prod (.int .i64) (.prod (.sl 115 (.int .u64)) (.sl 2 (.int .i64))))))))) (.sl 114 (.prod (.int .i64) (.prod (.int .i64) (.prod (.int .i64) (.prod (.int .i64) (.prod (.int .i64) (.prod (.sl 115 (.int .u64)) (.sl 2 (.int .i64))))))))))))))), (13, .c (.o (.int .i64))), (14, .c (.o (.int .i64)))], [], [], [], []⟩
def impl_literalsOk.l5.u (n : Nat) (v : impl_literalsOk.l5.s.V) (K : X → St → Prop) : Prop := impl_literalsOk.l5 n v.1.1 v.1.2.2.1 v.1.2.2.2.1 v.1.2.1 v.1.2.2.2.2.1 (K (.exit 0) ⟨[], [], [], [], []⟩) (fun y0 => K .ret ⟨[(4, .c (.bool y0))], [], [], [], []⟩)
theorem impl_literalsOk.l5_ok : ∀ n v K, impl_literalsOk.l5.u n v K → loopM C X0 n 46 5 (impl_literalsOk.l5.s.fill v) K :=
 loop_tell hX (fn := Tryz.f46) (c := bodyOf Tryz.f46) (a := loopOf Tryz.f46 5) (li := liOf (C.fi 46).loops 5) (by kernel_rfl) (by kernel_rfl) (of_decide_eq_true rfl) (by kernel_rfl) (by kernel_rfl) (T := impl_literalsOk.l5.s) (u := impl_literalsOk.l5.u) (fun _ _ h => h) (call := D64) (lp := fun n => noL) (D64_ok hX) (fun n => noL_ok) (fun n v K => by kernel_rfl)
theorem impl_literalsOk_ok : ∀ n v K, impl_literalsOk.u n v K → callM C X0 n 46 (fillA impl_literalsOk.a v) K :=
 call_tell hX (fn := Tryz.f46) (c := bodyOf Tryz.f46) (by kernel_rfl) (by kernel_rfl) (A := impl_literalsOk.a) (u := impl_literalsOk.u) (fun _ _ h => h) (call := D64) (lp := fun n => orL 5 impl_literalsOk.l5.s (impl_literalsOk.l5.u n) noL) (D64_ok hX) (fun n => (orL_ok (impl_literalsOk.l5_ok hX n) noL_ok)) (fun n v K => by kernel_rfl)
def D65 (n : Nat) : CallF := orC 46 impl_literalsOk.a (impl_literalsOk.u n) (D64 n)
theorem D65_ok : ∀ n g a K, D65 n g a K → callM C X0 n g a K := fun n => orC_ok (impl_literalsOk_ok hX n) (D64_ok hX n)
abbrev slices_Clone_Literal.a : List TS := [.c (.o (.dat 69 (.prod (.int .i64) (.prod .bool (.prod (.sl 114 (.prod (.int .i64) (.prod (.int .i64) (.prod (.int .i64) (.prod (.int .i64) (.prod (.int .i64) (.prod (.sl 115 (.int .u64)) (.sl 2 (.int .i64))))))))) (.sl 114 (.prod (.int .i64) (.prod (.int .i64) (.prod (.int .i64) (.prod (.int .i64) (.prod (.int .i64) (.prod (.sl 115 (.int .u64)) (.sl 2 (.int .i64))))))))))))))]
def slices_Clone_Literal.u (n : Nat) (v : VA slices_Clone_Literal.a) (K : RES → Prop) : Prop := slices_Clone_Literal.c n v.1 (fun r0 => K ⟨.c (.row ⟨69, .prod (.int .i64) (.prod .bool (.prod (.sl 114 (.prod (.int .i64) (.prod (.int .i64) (.prod (.int .i64) (.prod (.int .i64) (.prod (.int .i64) (.prod (.sl 115 (.int .u64)) (.sl 2 (.int .i64))))))))) (.sl 114 (.prod (.int .i64) (.prod (.int .i64) (.prod (.int .i64) (.prod (.int .i64) (.prod (.int .i64) (.prod (.sl 115 (.int .u64)) (.sl 2 (.int .i64))))))))))), r0, 1, none⟩), []⟩)
theorem slices_Clone_Literal_ok : ∀ n v K, slices_Clone_Literal.u n v K → callM C X0 n 49 (fillA slices_Clone_Literal.a v) K :=
 call_tell hX (fn := Tryz.f49) (c := bodyOf Tryz.f49) (by kernel_rfl) (by kernel_rfl) (A := slices_Clone_Literal.a) (u := slices_Clone_Literal.u) (fun _ _ h => h) (call := D65) (lp := fun n => noL) (D65_ok hX) (fun n => noL_ok) (fun n v K => by kernel_rfl)
def D66 (n : Nat) : CallF := orC 49 slices_Clone_Literal.a (slices_Clone_Literal.u n) (D65 n)
theorem D66_ok : ∀ n g a K, D66 n g a K → callM C X0 n g a K := fun n => orC_ok (slices_Clone_Literal_ok hX n) (D65_ok hX n)
abbrev impl_zeroBits.a : List TS := [.c (.o (.int .i64))]
def impl_zeroBits.u (n : Nat) (v : VA impl_zeroBits.a) (K : RES → Prop) : Prop := impl_zeroBits.c n v.1 (fun r0 r1 => K ⟨.agg [.int .i64 r0, .row ⟨115, .int .u64, r1, 99, none⟩], []⟩)
theorem impl_zeroBits_ok : ∀ n v K, impl_zeroBits.u n v K → callM C X0 n 100 (fillA impl_zeroBits.a v) K :=
 call_tell hX (fn := Tryz.f100) (c := bodyOf Tryz.f100) (by kernel_rfl) (by kernel_rfl) (A := impl_zeroBits.a) (u := impl_zeroBits.u) (fun _ _ h => h) (call := D66) (lp := fun n => noL) (D66_ok hX) (fun n => noL_ok) (fun n v K => by kernel_rfl)
def D67 (n : Nat) : CallF := orC 100 impl_zeroBits.a (impl_zeroBits.u n) (D66 n)
theorem D67_ok : ∀ n g a K, D67 n g a K → callM C X0 n g a K := fun n => orC_ok (impl_zeroBits_ok hX n) (D66_ok hX n)
abbrev impl_Bits_put.a : List TS := [.a [.o (.int .i64), .o (.row 115 (.int .u64) 99)], .c (.o (.int .i64)), .a [.o (.int .i64), .o (.dat 115 (.int .u64))]]
def impl_Bits_put.u (n : Nat) (v : VA impl_Bits_put.a) (K : RES → Prop) : Prop := impl_Bits_put.c n v.1.1 v.1.2.1 v.2.1 v.2.2.1.1 v.2.2.1.2.1 (fun r0 r1 => K ⟨.tup [], [[.int .i64 r0, .row ⟨115, .int .u64, r1, 99, none⟩]]⟩)
abbrev impl_Bits_put.l2.s : ST := ⟨[(1, .c (.o (.int .i64))), (3, .c (.o (.pbox 3 0))), (10, .c (.o (.dat 115 (.int .u64)))), (11, .c (.o (.int .i64))), (12, .c (.o (.int .i64)))], [⟨1, 115, .int .u64, 99⟩], [⟨3, 83, [.o (.int .i64), .o (.own 1)], false⟩], [1], []⟩
def impl_Bits_put.l2.u (n : Nat) (v : impl_Bits_put.l2.s.V) (K : X → St → Prop) : Prop := impl_Bits_put.l2 n v.1.1 v.1.2.2.1 v.1.2.2.2.1 v.2.2.1.1 v.1.2.2.2.2.1 v.2.1.1 (fun y0 => K (.exit 0) ⟨[], [(1, ⟨115, .int .u64, y0, 99, none⟩)], [], [1], []⟩)
theorem impl_Bits_put.l2_ok : ∀ n v K, impl_Bits_put.l2.u n v K → loopM C X0 n 130 2 (impl_Bits_put.l2.s.fill v) K :=
 loop_tell hX (fn := Tryz.f130) (c := bodyOf Tryz.f130) (a := loopOf Tryz.f130 2) (li := liOf (C.fi 130).loops 2) (by kernel_rfl) (by kernel_rfl) (of_decide_eq_true rfl) (by kernel_rfl) (by kernel_rfl) (T := impl_Bits_put.l2.s) (u := impl_Bits_put.l2.u) (fun _ _ h => h) (call := D67) (lp := fun n => noL) (D67_ok hX) (fun n => noL_ok) (fun n v K => by kernel_rfl)
theorem impl_Bits_put_ok : ∀ n v K, impl_Bits_put.u n v K → callM C X0 n 130 (fillA impl_Bits_put.a v) K :=
 call_tell hX (fn := Tryz.f130) (c := bodyOf Tryz.f130) (by kernel_rfl) (by kernel_rfl) (A := impl_Bits_put.a) (u := impl_Bits_put.u) (fun _ _ h => h) (call := D67) (lp := fun n => orL 2 impl_Bits_put.l2.s (impl_Bits_put.l2.u n) noL) (D67_ok hX) (fun n => (orL_ok (impl_Bits_put.l2_ok hX n) noL_ok)) (fun n v K => by kernel_rfl)
def D68 (n : Nat) : CallF := orC 130 impl_Bits_put.a (impl_Bits_put.u n) (D67 n)
theorem D68_ok : ∀ n g a K, D68 n g a K → callM C X0 n g a K := fun n => orC_ok (impl_Bits_put_ok hX n) (D67_ok hX n)
end
end Go.Vsi
end

section
set_option linter.unusedVariables false
namespace Go.Vsi
open Go.Proofs
section
variable {X0 : CallF} (hX : CallF.Mono X0)
include hX
abbrev impl_Bits_over.a : List TS := [.a [.o (.int .i64), .o (.dat 115 (.int .u64))], .a [.o (.int .i64), .o (.dat 115 (.int .u64))]]
def impl_Bits_over.u (n : Nat) (v : VA impl_Bits_over.a) (K : RES → Prop) : Prop := impl_Bits_over.c n v.1.1 v.1.2.1 v.2.1.1 v.2.1.2.1 (fun r0 r1 => K ⟨.agg [.int .i64 r0, .row ⟨115, .int .u64, r1, 99, none⟩], []⟩)
theorem impl_Bits_over_ok : ∀ n v K, impl_Bits_over.u n v K → callM C X0 n 118 (fillA impl_Bits_over.a v) K :=
 call_tell hX (fn := Tryz.f118) (c := bodyOf Tryz.f118) (by kernel_rfl) (by kernel_rfl) (A := impl_Bits_over.a) (u := impl_Bits_over.u) (fun _ _ h => h) (call := D68) (lp := fun n => noL) (D68_ok hX) (fun n => noL_ok) (fun n v K => by kernel_rfl)
def D69 (n : Nat) : CallF := orC 118 impl_Bits_over.a (impl_Bits_over.u n) (D68 n)
theorem D69_ok : ∀ n g a K, D69 n g a K → callM C X0 n g a K := fun n => orC_ok (impl_Bits_over_ok hX n) (D68_ok hX n)
abbrev impl_Bits_cut.a : List TS := [.a [.o (.int .i64), .o (.dat 115 (.int .u64))], .c (.o (.int .i64)), .c (.o (.int .i64))]
def impl_Bits_cut.u (n : Nat) (v : VA impl_Bits_cut.a) (K : RES → Prop) : Prop := impl_Bits_cut.c n v.1.1 v.1.2.1 v.2.1 v.2.2.1 (fun r0 r1 => K ⟨.agg [.int .i64 r0, .row ⟨115, .int .u64, r1, 99, none⟩], []⟩)
abbrev impl_Bits_cut.l3.s : ST := ⟨[(1, .c (.o (.int .i64))), (2, .c (.o (.int .i64))), (3, .c (.o (.pbox 3 0))), (6, .c (.o (.pbox 6 0))), (7, .c (.o (.pbox 7 0))), (15, .c (.o (.int .i64))), (16, .c (.o (.int .i64)))], [⟨385, 115, .int .u64, 99⟩, ⟨1000193, 115, .int .u64, 99⟩], [⟨3, 83, [.o (.int .i64), .o (.dat 115 (.int .u64))], false⟩, ⟨6, 83, [.o (.int .i64), .o (.own 1000193)], false⟩, ⟨7, 83, [.o (.int .i64), .o (.own 385)], false⟩], [], []⟩
def impl_Bits_cut.l3.u (n : Nat) (v : impl_Bits_cut.l3.s.V) (K : X → St → Prop) : Prop := impl_Bits_cut.l3 n v.1.1 v.1.2.1 v.1.2.2.2.2.2.1 v.2.1.2.1 v.2.2.1.1 v.2.2.1.2.1 v.2.2.2.1.1 v.2.2.2.2.1.1 v.1.2.2.2.2.2.2.1 v.2.1.1 (fun y0 y1 y2 y3 y4 => K (.exit 0) ⟨[(2, .c (.int .i64 y0)), (6, .c (.pbox 6 0)), (7, .c (.pbox 7 0))], [(385, ⟨115, .int .u64, y1, 99, none⟩), (1000193, ⟨115, .int .u64, y2, 99, none⟩)], [(6, ⟨83, [.int .i64 y3, .own 1000193], false⟩), (7, ⟨83, [.int .i64 y4, .own 385], false⟩)], [], []⟩)
theorem impl_Bits_cut.l3_ok : ∀ n v K, impl_Bits_cut.l3.u n v K → loopM C X0 n 119 3 (impl_Bits_cut.l3.s.fill v) K :=
 loop_tell hX (fn := Tryz.f119) (c := bodyOf Tryz.f119) (a := loopOf Tryz.f119 3) (li := liOf (C.fi 119).loops 3) (by kernel_rfl) (by kernel_rfl) (of_decide_eq_true rfl) (by kernel_rfl) (by kernel_rfl) (T := impl_Bits_cut.l3.s) (u := impl_Bits_cut.l3.u) (fun _ _ h => h) (call := D69) (lp := fun n => noL) (D69_ok hX) (fun n => noL_ok) (fun n v K => by kernel_rfl)
theorem impl_Bits_cut_ok : ∀ n v K, impl_Bits_cut.u n v K → callM C X0 n 119 (fillA impl_Bits_cut.a v) K :=
 call_tell hX (fn := Tryz.f119) (c := bodyOf Tryz.f119) (by kernel_rfl) (by kernel_rfl) (A := impl_Bits_cut.a) (u := impl_Bits_cut.u) (fun _ _ h => h) (call := D69) (lp := fun n => orL 3 impl_Bits_cut.l3.s (impl_Bits_cut.l3.u n) noL) (D69_ok hX) (fun n => (orL_ok (impl_Bits_cut.l3_ok hX n) noL_ok)) (fun n v K => by kernel_rfl)
def D70 (n : Nat) : CallF := orC 119 impl_Bits_cut.a (impl_Bits_cut.u n) (D69 n)
theorem D70_ok : ∀ n g a K, D70 n g a K → callM C X0 n g a K := fun n => orC_ok (impl_Bits_cut_ok hX n) (D69_ok hX n)
abbrev slices_Clone_uint64.a : List TS := [.c (.o (.dat 115 (.int .u64)))]
def slices_Clone_uint64.u (n : Nat) (v : VA slices_Clone_uint64.a) (K : RES → Prop) : Prop := slices_Clone_uint64.c n v.1 (fun r0 => K ⟨.c (.row ⟨115, .int .u64, r0, 99, none⟩), []⟩)
theorem slices_Clone_uint64_ok : ∀ n v K, slices_Clone_uint64.u n v K → callM C X0 n 123 (fillA slices_Clone_uint64.a v) K :=
 call_tell hX (fn := Tryz.f123) (c := bodyOf Tryz.f123) (by kernel_rfl) (by kernel_rfl) (A := slices_Clone_uint64.a) (u := slices_Clone_uint64.u) (fun _ _ h => h) (call := D70) (lp := fun n => noL) (D70_ok hX) (fun n => noL_ok) (fun n v K => by kernel_rfl)
def D71 (n : Nat) : CallF := orC 123 slices_Clone_uint64.a (slices_Clone_uint64.u n) (D70 n)
theorem D71_ok : ∀ n g a K, D71 n g a K → callM C X0 n g a K := fun n => orC_ok (slices_Clone_uint64_ok hX n) (D70_ok hX n)
abbrev impl_cloneBits.a : List TS := [.a [.o (.int .i64), .o (.dat 115 (.int .u64))]]
def impl_cloneBits.u (n : Nat) (v : VA impl_cloneBits.a) (K : RES → Prop) : Prop := impl_cloneBits.c n v.1.1 v.1.2.1 (fun r0 r1 => K ⟨.agg [.int .i64 r0, .row ⟨115, .int .u64, r1, 99, none⟩], []⟩)
theorem impl_cloneBits_ok : ∀ n v K, impl_cloneBits.u n v K → callM C X0 n 98 (fillA impl_cloneBits.a v) K :=
 call_tell hX (fn := Tryz.f98) (c := bodyOf Tryz.f98) (by kernel_rfl) (by kernel_rfl) (A := impl_cloneBits.a) (u := impl_cloneBits.u) (fun _ _ h => h) (call := D71) (lp := fun n => noL) (D71_ok hX) (fun n => noL_ok) (fun n v K => by kernel_rfl)
def D72 (n : Nat) : CallF := orC 98 impl_cloneBits.a (impl_cloneBits.u n) (D71 n)
theorem D72_ok : ∀ n g a K, D72 n g a K → callM C X0 n g a K := fun n => orC_ok (impl_cloneBits_ok hX n) (D71_ok hX n)
abbrev impl_Bits_turn.a : List TS := [.a [.o (.int .i64), .o (.dat 115 (.int .u64))], .c (.o (.int .i64))]
def impl_Bits_turn.u (n : Nat) (v : VA impl_Bits_turn.a) (K : RES → Prop) : Prop := impl_Bits_turn.c n v.1.1 v.1.2.1 v.2.1 (fun r0 r1 => K ⟨.agg [.int .i64 r0, .row ⟨115, .int .u64, r1, 99, none⟩], []⟩)
theorem impl_Bits_turn_ok : ∀ n v K, impl_Bits_turn.u n v K → callM C X0 n 120 (fillA impl_Bits_turn.a v) K :=
 call_tell hX (fn := Tryz.f120) (c := bodyOf Tryz.f120) (by kernel_rfl) (by kernel_rfl) (A := impl_Bits_turn.a) (u := impl_Bits_turn.u) (fun _ _ h => h) (call := D72) (lp := fun n => noL) (D72_ok hX) (fun n => noL_ok) (fun n v K => by kernel_rfl)
def D73 (n : Nat) : CallF := orC 120 impl_Bits_turn.a (impl_Bits_turn.u n) (D72 n)
theorem D73_ok : ∀ n g a K, D73 n g a K → callM C X0 n g a K := fun n => orC_ok (impl_Bits_turn_ok hX n) (D72_ok hX n)
abbrev impl_Bits_repeat.a : List TS := [.a [.o (.int .i64), .o (.dat 115 (.int .u64))], .c (.o (.int .i64))]
def impl_Bits_repeat.u (n : Nat) (v : VA impl_Bits_repeat.a) (K : RES → Prop) : Prop := impl_Bits_repeat.c n v.1.1 v.1.2.1 v.2.1 (fun r0 r1 => K ⟨.agg [.int .i64 r0, .row ⟨115, .int .u64, r1, 99, none⟩], []⟩)
abbrev impl_Bits_repeat.l3.s : ST := ⟨[(2, .c (.o (.pbox 2 0))), (4, .c (.o (.pbox 4 0))), (5, .c (.o (.pbox 5 0))), (12, .c (.o (.int .i64))), (13, .c (.o (.int .i64)))], [⟨353, 115, .int .u64, 99⟩, ⟨1000129, 115, .int .u64, 99⟩], [⟨2, 83, [.o (.int .i64), .o (.dat 115 (.int .u64))], false⟩, ⟨4, 83, [.o (.int .i64), .o (.own 1000129)], false⟩, ⟨5, 83, [.o (.int .i64), .o (.own 353)], false⟩], [], []⟩
def impl_Bits_repeat.l3.u (n : Nat) (v : impl_Bits_repeat.l3.s.V) (K : X → St → Prop) : Prop := impl_Bits_repeat.l3 n v.1.2.2.2.1 v.2.1.2.1 v.2.2.1.1 v.2.2.1.2.1 v.2.2.2.1.1 v.2.2.2.2.1.1 v.1.2.2.2.2.1 v.2.1.1 (fun y0 y1 y2 y3 => K (.exit 0) ⟨[(4, .c (.pbox 4 0)), (5, .c (.pbox 5 0))], [(353, ⟨115, .int .u64, y0, 99, none⟩), (1000129, ⟨115, .int .u64, y1, 99, none⟩)], [(4, ⟨83, [.int .i64 y2, .own 1000129], false⟩), (5, ⟨83, [.int .i64 y3, .own 353], false⟩)], [], []⟩)
theorem impl_Bits_repeat.l3_ok : ∀ n v K, impl_Bits_repeat.l3.u n v K → loopM C X0 n 121 3 (impl_Bits_repeat.l3.s.fill v) K :=
 loop_tell hX (fn := Tryz.f121) (c := bodyOf Tryz.f121) (a := loopOf Tryz.f121 3) (li := liOf (C.fi 121).loops 3) (by kernel_rfl) (by kernel_rfl) (of_decide_eq_true rfl) (by kernel_rfl) (by kernel_rfl) (T := impl_Bits_repeat.l3.s) (u := impl_Bits_repeat.l3.u) (fun _ _ h => h) (call := D73) (lp := fun n => noL) (D73_ok hX) (fun n => noL_ok) (fun n v K => by kernel_rfl)
theorem impl_Bits_repeat_ok : ∀ n v K, impl_Bits_repeat.u n v K → callM C X0 n 121 (fillA impl_Bits_repeat.a v) K :=
 call_tell hX (fn := Tryz.f121) (c := bodyOf Tryz.f121) (by kernel_rfl) (by kernel_rfl) (A := impl_Bits_repeat.a) (u := impl_Bits_repeat.u) (fun _ _ h => h) (call := D73) (lp := fun n => orL 3 impl_Bits_repeat.l3.s (impl_Bits_repeat.l3.u n) noL) (D73_ok hX) (fun n => (orL_ok (impl_Bits_repeat.l3_ok hX n) noL_ok)) (fun n v K => by kernel_rfl)
def D74 (n : Nat) : CallF := orC 121 impl_Bits_repeat.a (impl_Bits_repeat.u n) (D73 n)
theorem D74_ok : ∀ n g a K, D74 n g a K → callM C X0 n g a K := fun n => orC_ok (impl_Bits_repeat_ok hX n) (D73_ok hX n)
abbrev impl_Bits_bit.a : List TS := [.a [.o (.int .i64), .o (.dat 115 (.int .u64))], .c (.o (.int .i64))]
def impl_Bits_bit.u (n : Nat) (v : VA impl_Bits_bit.a) (K : RES → Prop) : Prop := impl_Bits_bit.c n v.1.1 v.1.2.1 v.2.1 (fun r0 => K ⟨.c (.int .u64 r0), []⟩)
theorem impl_Bits_bit_ok : ∀ n v K, impl_Bits_bit.u n v K → callM C X0 n 131 (fillA impl_Bits_bit.a v) K :=
 call_tell hX (fn := Tryz.f131) (c := bodyOf Tryz.f131) (by kernel_rfl) (by kernel_rfl) (A := impl_Bits_bit.a) (u := impl_Bits_bit.u) (fun _ _ h => h) (call := D74) (lp := fun n => noL) (D74_ok hX) (fun n => noL_ok) (fun n v K => by kernel_rfl)
def D75 (n : Nat) : CallF := orC 131 impl_Bits_bit.a (impl_Bits_bit.u n) (D74 n)
theorem D75_ok : ∀ n g a K, D75 n g a K → callM C X0 n g a K := fun n => orC_ok (impl_Bits_bit_ok hX n) (D74_ok hX n)
abbrev impl_Bits_set.a : List TS := [.a [.o (.int .i64), .o (.row 115 (.int .u64) 99)], .c (.o (.int .i64))]
def impl_Bits_set.u (n : Nat) (v : VA impl_Bits_set.a) (K : RES → Prop) : Prop := impl_Bits_set.c n v.1.1 v.1.2.1 v.2.1 (fun r0 r1 => K ⟨.tup [], [[.int .i64 r0, .row ⟨115, .int .u64, r1, 99, none⟩]]⟩)
theorem impl_Bits_set_ok : ∀ n v K, impl_Bits_set.u n v K → callM C X0 n 132 (fillA impl_Bits_set.a v) K :=
 call_tell hX (fn := Tryz.f132) (c := bodyOf Tryz.f132) (by kernel_rfl) (by kernel_rfl) (A := impl_Bits_set.a) (u := impl_Bits_set.u) (fun _ _ h => h) (call := D75) (lp := fun n => noL) (D75_ok hX) (fun n => noL_ok) (fun n v K => by kernel_rfl)
def D76 (n : Nat) : CallF := orC 132 impl_Bits_set.a (impl_Bits_set.u n) (D75 n)
theorem D76_ok : ∀ n g a K, D76 n g a K → callM C X0 n g a K := fun n => orC_ok (impl_Bits_set_ok hX n) (D75_ok hX n)
abbrev impl_Bits_widen.a : List TS := [.a [.o (.int .i64), .o (.dat 115 (.int .u64))], .c (.o (.int .i64)), .c (.o .bool)]
def impl_Bits_widen.u (n : Nat) (v : VA impl_Bits_widen.a) (K : RES → Prop) : Prop := impl_Bits_widen.c n v.1.1 v.1.2.1 v.2.1 v.2.2.1 (fun r0 r1 => K ⟨.agg [.int .i64 r0, .row ⟨115, .int .u64, r1, 99, none⟩], []⟩)
abbrev impl_Bits_widen.l5.s : ST := ⟨[(3, .c (.o (.pbox 3 0))), (6, .c (.o (.pbox 6 0))), (7, .c (.o (.pbox 7 0))), (26, .c (.o (.int .i64))), (27, .c (.o (.int .i64)))], [⟨417, 115, .int .u64, 99⟩, ⟨1000193, 115, .int .u64, 99⟩], [⟨3, 83, [.o (.int .i64), .o (.dat 115 (.int .u64))], false⟩, ⟨6, 83, [.o (.int .i64), .o (.own 1000193)], false⟩, ⟨7, 83, [.o (.int .i64), .o (.own 417)], false⟩], [], []⟩
def impl_Bits_widen.l5.u (n : Nat) (v : impl_Bits_widen.l5.s.V) (K : X → St → Prop) : Prop := impl_Bits_widen.l5 n v.1.2.2.2.1 v.2.1.2.1 v.2.2.1.1 v.2.2.1.2.1 v.2.2.2.1.1 v.2.2.2.2.1.1 v.1.2.2.2.2.1 v.2.1.1 (fun y0 y1 y2 y3 => K (.exit 0) ⟨[(6, .c (.pbox 6 0)), (7, .c (.pbox 7 0))], [(417, ⟨115, .int .u64, y0, 99, none⟩), (1000193, ⟨115, .int .u64, y1, 99, none⟩)], [(6, ⟨83, [.int .i64 y2, .own 1000193], false⟩), (7, ⟨83, [.int .i64 y3, .own 417], false⟩)], [], []⟩)
theorem impl_Bits_widen.l5_ok : ∀ n v K, impl_Bits_widen.l5.u n v K → loopM C X0 n 122 5 (impl_Bits_widen.l5.s.fill v) K :=
 loop_tell hX (fn := Tryz.f122) (c := bodyOf Tryz.f122) (a := loopOf Tryz.f122 5) (li := liOf (C.fi 122).loops 5) (by kernel_rfl) (by kernel_rfl) (of_decide_eq_true rfl) (by kernel_rfl) (by kernel_rfl) (T := impl_Bits_widen.l5.s) (u := impl_Bits_widen.l5.u) (fun _ _ h => h) (call := D76) (lp := fun n => noL) (D76_ok hX) (fun n => noL_ok) (fun n v K => by kernel_rfl)
theorem impl_Bits_widen_ok : ∀ n v K, impl_Bits_widen.u n v K → callM C X0 n 122 (fillA impl_Bits_widen.a v) K :=
 call_tell hX (fn := Tryz.f122) (c := bodyOf Tryz.f122) (by kernel_rfl) (by kernel_rfl) (A := impl_Bits_widen.a) (u := impl_Bits_widen.u) (fun _ _ h => h) (call := D76) (lp := fun n => orL 5 impl_Bits_widen.l5.s (impl_Bits_widen.l5.u n) noL) (D76_ok hX) (fun n => (orL_ok (impl_Bits_widen.l5_ok hX n) noL_ok)) (fun n v K => by kernel_rfl)
def D77 (n : Nat) : CallF := orC 122 impl_Bits_widen.a (impl_Bits_widen.u n) (D76 n)
theorem D77_ok : ∀ n g a K, D77 n g a K → callM C X0 n g a K := fun n => orC_ok (impl_Bits_widen_ok hX n) (D76_ok hX n)
abbrev impl_TNode_apply.a : List TS := [.c (.o (.pdat 114 (.prod (.int .i64) (.prod (.int .i64) (.prod (.int .i64) (.prod (.int .i64) (.prod (.int .i64) (.prod (.sl 115 (.int .u64)) (.sl 2 (.int .i64)))))))) 0)), .c (.o (.dat 83 (.prod (.int .i64) (.sl 115 (.int .u64))))), .c (.o (.dat 83 (.prod (.int .i64) (.sl 115 (.int .u64)))))]
def impl_TNode_apply.u (n : Nat) (v : VA impl_TNode_apply.a) (K : RES → Prop) : Prop := impl_TNode_apply.c n v.1 v.2.1 v.2.2.1 (fun r0 r1 => K ⟨.agg [.int .i64 r0, .dat 115 (.int .u64) r1], []⟩)
abbrev impl_TNode_apply.l9.s : ST := ⟨[(6, .c (.o (.pbox 6 0))), (7, .c (.o (.pbox 7 0))), (36, .c (.o (.dat 83 (.prod (.int .i64) (.sl 115 (.int .u64)))))), (37, .c (.o (.int .i64))), (38, .c (.o (.int .i64)))], [⟨1000193, 115, .int .u64, 99⟩], [⟨6, 83, [.o (.int .i64), .o (.own 1000193)], false⟩, ⟨7, 83, [.o (.int .i64), .o (.dat 115 (.int .u64))], false⟩], [], []⟩
def impl_TNode_apply.l9.u (n : Nat) (v : impl_TNode_apply.l9.s.V) (K : X → St → Prop) : Prop := impl_TNode_apply.l9 n v.1.2.2.1 v.1.2.2.2.1 v.2.1.1 v.2.2.1.1 v.1.2.2.2.2.1 v.2.2.2.1.1 v.2.2.2.1.2.1 (fun y0 y1 y2 y3 => K (.exit 1) ⟨[(6, .c (.pbox 6 0)), (7, .c (.pbox 7 0))], [(1000193, ⟨115, .int .u64, y0, 99, none⟩)], [(6, ⟨83, [.int .i64 y1, .own 1000193], false⟩), (7, ⟨83, [.int .i64 y2, .dat 115 (.int .u64) y3], false⟩)], [], []⟩)
theorem impl_TNode_apply.l9_ok : ∀ n v K, impl_TNode_apply.l9.u n v K → loopM C X0 n 97 9 (impl_TNode_apply.l9.s.fill v) K :=
 loop_tell hX (fn := Tryz.f97) (c := bodyOf Tryz.f97) (a := loopOf Tryz.f97 9) (li := liOf (C.fi 97).loops 9) (by kernel_rfl) (by kernel_rfl) (of_decide_eq_true rfl) (by kernel_rfl) (by kernel_rfl) (T := impl_TNode_apply.l9.s) (u := impl_TNode_apply.l9.u) (fun _ _ h => h) (call := D77) (lp := fun n => noL) (D77_ok hX) (fun n => noL_ok) (fun n v K => by kernel_rfl)
theorem impl_TNode_apply_ok : ∀ n v K, impl_TNode_apply.u n v K → callM C X0 n 97 (fillA impl_TNode_apply.a v) K :=
 call_tell hX (fn := Tryz.f97) (c := bodyOf Tryz.f97) (by kernel_rfl) (by kernel_rfl) (A := impl_TNode_apply.a) (u := impl_TNode_apply.u) (fun _ _ h => h) (call := D77) (lp := fun n => orL 9 impl_TNode_apply.l9.s (impl_TNode_apply.l9.u n) noL) (D77_ok hX) (fun n => (orL_ok (impl_TNode_apply.l9_ok hX n) noL_ok)) (fun n v K => by kernel_rfl)
def D78 (n : Nat) : CallF := orC 97 impl_TNode_apply.a (impl_TNode_apply.u n) (D77 n)
theorem D78_ok : ∀ n g a K, D78 n g a K → callM C X0 n g a K := fun n => orC_ok (impl_TNode_apply_ok hX n) (D77_ok hX n)
abbrev impl_eval.a : List TS := [.c (.o (.dat 83 (.prod (.int .i64) (.sl 115 (.int .u64))))), .a [.o (.dat 114 (.prod (.int .i64) (.prod (.int .i64) (.prod (.int .i64) (.prod (.int .i64) (.prod (.int .i64) (.prod (.sl 115 (.int .u64)) (.sl 2 (.int .i64)))))))))]]
def impl_eval.u (n : Nat) (v : VA impl_eval.a) (K : RES → Prop) : Prop := impl_eval.c n v.1 v.2.1.1 (fun r0 r1 => K ⟨.agg [.int .i64 r0, .row ⟨115, .int .u64, r1, 99, none⟩], []⟩)
abbrev impl_eval.l8.s : ST := ⟨[(0, .c (.o (.dat 83 (.prod (.int .i64) (.sl 115 (.int .u64)))))), (3, .c (.o (.pbox 3 0))), (4, .c (.o (.pbox 4 0))), (5, .c (.o (.own 160))), (6, .c (.o (.int .i64))), (7, .c (.o (.pdat 114 (.prod (.int .i64) (.prod (.int .i64) (.prod (.int .i64) (.prod (.int .i64) (.prod (.int .i64) (.prod (.sl 115 (.int .u64)) (.sl 2 (.int .i64)))))))) 0))), (8, .c (.o (.own 256))), (17, .c (.o (.int .i64))), (18, .c (.o (.int .i64))), (34, .c (.o (.dat 2 (.int .i64)))), (35, .c (.o (.int .i64))), (36, .c (.o (.int .i64)))], [⟨160, 83, .prod (.int .i64) (.sl 115 (.int .u64)), 1⟩, ⟨256, 83, .prod (.int .i64) (.sl 115 (.int .u64)), 1⟩, ⟨1000129, 115, .int .u64, 99⟩], [⟨3, 67, [.o (.dat 114 (.prod (.int .i64) (.prod (.int .i64) (.prod (.int .i64) (.prod (.int .i64) (.prod (.int .i64) (.prod (.sl 115 (.int .u64)) (.sl 2 (.int .i64)))))))))], false⟩, ⟨4, 83, [.o (.int .i64), .o (.own 1000129)], false⟩], [], []⟩
def impl_eval.l8.u (n : Nat) (v : impl_eval.l8.s.V) (K : X → St → Prop) : Prop := impl_eval.l8 n v.1.1 v.1.2.2.2.2.1 v.1.2.2.2.2.2.1 v.1.2.2.2.2.2.2.2.1 v.1.2.2.2.2.2.2.2.2.1 v.1.2.2.2.2.2.2.2.2.2.1 v.1.2.2.2.2.2.2.2.2.2.2.1 v.2.1.1 v.2.1.2.2.1 v.2.2.1.1 v.2.2.2.1.1 v.1.2.2.2.2.2.2.2.2.2.2.2.1 v.2.1.2.1 (fun y0 y1 y2 y3 y4 y5 y6 y7 y8 y9 => K (.exit 2) ⟨[(0, .c (.dat 83 (.prod (.int .i64) (.sl 115 (.int .u64))) y0)), (3, .c (.pbox 3 0)), (4, .c (.pbox 4 0)), (5, .c (.own 160)), (6, .c (.int .i64 y1)), (7, .c (.pdat 114 (.prod (.int .i64) (.prod (.int .i64) (.prod (.int .i64) (.prod (.int .i64) (.prod (.int .i64) (.prod (.sl 115 (.int .u64)) (.sl 2 (.int .i64)))))))) y2 0)), (8, .c (.own 256)), (17, .c (.int .i64 y3)), (18, .c (.int .i64 y4))], [(160, ⟨83, .prod (.int .i64) (.sl 115 (.int .u64)), y5, 1, none⟩), (256, ⟨83, .prod (.int .i64) (.sl 115 (.int .u64)), y6, 1, none⟩), (1000129, ⟨115, .int .u64, y7, 99, none⟩)], [(3, ⟨67, [.dat 114 (.prod (.int .i64) (.prod (.int .i64) (.prod (.int .i64) (.prod (.int .i64) (.prod (.int .i64) (.prod (.sl 115 (.int .u64)) (.sl 2 (.int .i64)))))))) y8], false⟩), (4, ⟨83, [.int .i64 y9, .own 1000129], false⟩)], [], []⟩)
abbrev impl_eval.l3.s : ST := ⟨[(0, .c (.o (.dat 83 (.prod (.int .i64) (.sl 115 (.int .u64)))))), (3, .c (.o (.pbox 3 0))), (4, .c (.o (.pbox 4 0))), (5, .c (.o (.own 160))), (17, .c (.o (.int .i64))), (18, .c (.o (.int .i64)))], [⟨160, 83, .prod (.int .i64) (.sl 115 (.int .u64)), 1⟩, ⟨1000129, 115, .int .u64, 99⟩], [⟨3, 67, [.o (.dat 114 (.prod (.int .i64) (.prod (.int .i64) (.prod (.int .i64) (.prod (.int .i64) (.prod (.int .i64) (.prod (.sl 115 (.int .u64)) (.sl 2 (.int .i64)))))))))], false⟩, ⟨4, 83, [.o (.int .i64), .o (.own 1000129)], false⟩], [], []⟩
def impl_eval.l3.u (n : Nat) (v : impl_eval.l3.s.V) (K : X → St → Prop) : Prop := impl_eval.l3 n v.1.1 v.1.2.2.2.2.1 v.1.2.2.2.2.2.1 v.2.1.1 v.2.1.2.1 v.2.2.1.1 v.2.2.2.1.1 (fun y0 y1 y2 => K (.exit 0) ⟨[(4, .c (.pbox 4 0)), (5, .c (.own 160))], [(160, ⟨83, .prod (.int .i64) (.sl 115 (.int .u64)), y0, 1, none⟩), (1000129, ⟨115, .int .u64, y1, 99, none⟩)], [(4, ⟨83, [.int .i64 y2, .own 1000129], false⟩)], [], []⟩)
theorem impl_eval.l8_ok : ∀ n v K, impl_eval.l8.u n v K → loopM C X0 n 81 8 (impl_eval.l8.s.fill v) K :=
 loop_tell hX (fn := Tryz.f81) (c := bodyOf Tryz.f81) (a := loopOf Tryz.f81 8) (li := liOf (C.fi 81).loops 8) (by kernel_rfl) (by kernel_rfl) (of_decide_eq_true rfl) (by kernel_rfl) (by kernel_rfl) (T := impl_eval.l8.s) (u := impl_eval.l8.u) (fun _ _ h => h) (call := D78) (lp := fun n => noL) (D78_ok hX) (fun n => noL_ok) (fun n v K => by kernel_rfl)
theorem impl_eval.l3_ok : ∀ n v K, impl_eval.l3.u n v K → loopM C X0 n 81 3 (impl_eval.l3.s.fill v) K :=
 loop_tell hX (fn := Tryz.f81) (c := bodyOf Tryz.f81) (a := loopOf Tryz.f81 3) (li := liOf (C.fi 81).loops 3) (by kernel_rfl) (by kernel_rfl) (of_decide_eq_true rfl) (by kernel_rfl) (by kernel_rfl) (T := impl_eval.l3.s) (u := impl_eval.l3.u) (fun _ _ h => h) (call := D78) (lp := fun n => orL 8 impl_eval.l8.s (impl_eval.l8.u n) noL) (D78_ok hX) (fun n => (orL_ok (impl_eval.l8_ok hX n) noL_ok)) (fun n v K => by kernel_rfl)
theorem impl_eval_ok : ∀ n v K, impl_eval.u n v K → callM C X0 n 81 (fillA impl_eval.a v) K :=
 call_tell hX (fn := Tryz.f81) (c := bodyOf Tryz.f81) (by kernel_rfl) (by kernel_rfl) (A := impl_eval.a) (u := impl_eval.u) (fun _ _ h => h) (call := D78) (lp := fun n => orL 3 impl_eval.l3.s (impl_eval.l3.u n) noL) (D78_ok hX) (fun n => (orL_ok (impl_eval.l3_ok hX n) noL_ok)) (fun n v K => by kernel_rfl)
def D79 (n : Nat) : CallF := orC 81 impl_eval.a (impl_eval.u n) (D78 n)
theorem D79_ok : ∀ n g a K, D79 n g a K → callM C X0 n g a K := fun n => orC_ok (impl_eval_ok hX n) (D78_ok hX n)
abbrev slices_Equal_uint64.a : List TS := [.c (.o (.dat 115 (.int .u64))), .c (.o (.dat 115 (.int .u64)))]
def slices_Equal_uint64.u (n : Nat) (v : VA slices_Equal_uint64.a) (K : RES → Prop) : Prop := slices_Equal_uint64.c n v.1 v.2.1 (fun r0 => K ⟨.c (.bool r0), []⟩)
abbrev slices_Equal_uint64.l4.s : ST := ⟨[(0, .c (.o (.dat 115 (.int .u64)))), (1, .c (.o (.dat 115 (.int .u64)))), (12, .c (.o (.int .i64))), (13, .c (.o (.int .i64)))], [], [], [], []⟩
def slices_Equal_uint64.l4.u (n : Nat) (v : slices_Equal_uint64.l4.s.V) (K : X → St → Prop) : Prop := slices_Equal_uint64.l4 n v.1.1 v.1.2.1 v.1.2.2.1 v.1.2.2.2.1 (K (.exit 0) ⟨[], [], [], [], []⟩) (fun y0 => K .ret ⟨[(4, .c (.bool y0))], [], [], [], []⟩)
theorem slices_Equal_uint64.l4_ok : ∀ n v K, slices_Equal_uint64.l4.u n v K → loopM C X0 n 99 4 (slices_Equal_uint64.l4.s.fill v) K :=
 loop_tell hX (fn := Tryz.f99) (c := bodyOf Tryz.f99) (a := loopOf Tryz.f99 4) (li := liOf (C.fi 99).loops 4) (by kernel_rfl) (by kernel_rfl) (of_decide_eq_true rfl) (by kernel_rfl) (by kernel_rfl) (T := slices_Equal_uint64.l4.s) (u := slices_Equal_uint64.l4.u) (fun _ _ h => h) (call := D79) (lp := fun n => noL) (D79_ok hX) (fun n => noL_ok) (fun n v K => by kernel_rfl)
theorem slices_Equal_uint64_ok : ∀ n v K, slices_Equal_uint64.u n v K → callM C X0 n 99 (fillA slices_Equal_uint64.a v) K :=
 call_tell hX (fn := Tryz.f99) (c := bodyOf Tryz.f99) (by kernel_rfl) (by kernel_rfl) (A := slices_Equal_uint64.a) (u := slices_Equal_uint64.u) (fun _ _ h => h) (call := D79) (lp := fun n => orL 4 slices_Equal_uint64.l4.s (slices_Equal_uint64.l4.u n) noL) (D79_ok hX) (fun n => (orL_ok (slices_Equal_uint64.l4_ok hX n) noL_ok)) (fun n v K => by kernel_rfl)
def D80 (n : Nat) : CallF := orC 99 slices_Equal_uint64.a (slices_Equal_uint64.u n) (D79 n)
theorem D80_ok : ∀ n g a K, D80 n g a K → callM C X0 n g a K := fun n => orC_ok (slices_Equal_uint64_ok hX n) (D79_ok hX n)
abbrev impl_Bits_same.a : List TS := [.a [.o (.int .i64), .o (.dat 115 (.int .u64))], .a [.o (.int .i64), .o (.dat 115 (.int .u64))]]
def impl_Bits_same.u (n : Nat) (v : VA impl_Bits_same.a) (K : RES → Prop) : Prop := impl_Bits_same.c n v.1.1 v.1.2.1 v.2.1.1 v.2.1.2.1 (fun r0 => K ⟨.c (.bool r0), []⟩)
theorem impl_Bits_same_ok : ∀ n v K, impl_Bits_same.u n v K → callM C X0 n 82 (fillA impl_Bits_same.a v) K :=
 call_tell hX (fn := Tryz.f82) (c := bodyOf Tryz.f82) (by kernel_rfl) (by kernel_rfl) (A := impl_Bits_same.a) (u := impl_Bits_same.u) (fun _ _ h => h) (call := D80) (lp := fun n => noL) (D80_ok hX) (fun n => noL_ok) (fun n v K => by kernel_rfl)
def D81 (n : Nat) : CallF := orC 82 impl_Bits_same.a (impl_Bits_same.u n) (D80 n)
theorem D81_ok : ∀ n g a K, D81 n g a K → callM C X0 n g a K := fun n => orC_ok (impl_Bits_same_ok hX n) (D80_ok hX n)
abbrev impl_Literal_holds.a : List TS := [.c (.o (.pdat 69 (.prod (.int .i64) (.prod .bool (.prod (.sl 114 (.prod (.int .i64) (.prod (.int .i64) (.prod (.int .i64) (.prod (.int .i64) (.prod (.int .i64) (.prod (.sl 115 (.int .u64)) (.sl 2 (.int .i64))))))))) (.sl 114 (.prod (.int .i64) (.prod (.int .i64) (.prod (.int .i64) (.prod (.int .i64) (.prod (.int .i64) (.prod (.sl 115 (.int .u64)) (.sl 2 (.int .i64)))))))))))) 0)), .c (.o (.dat 83 (.prod (.int .i64) (.sl 115 (.int .u64)))))]
def impl_Literal_holds.u (n : Nat) (v : VA impl_Literal_holds.a) (K : RES → Prop) : Prop := impl_Literal_holds.c n v.1 v.2.1 (fun r0 => K ⟨.c (.bool r0), []⟩)
theorem impl_Literal_holds_ok : ∀ n v K, impl_Literal_holds.u n v K → callM C X0 n 51 (fillA impl_Literal_holds.a v) K :=
 call_tell hX (fn := Tryz.f51) (c := bodyOf Tryz.f51) (by kernel_rfl) (by kernel_rfl) (A := impl_Literal_holds.a) (u := impl_Literal_holds.u) (fun _ _ h => h) (call := D81) (lp := fun n => noL) (D81_ok hX) (fun n => noL_ok) (fun n v K => by kernel_rfl)
def D82 (n : Nat) : CallF := orC 51 impl_Literal_holds.a (impl_Literal_holds.u n) (D81 n)
theorem D82_ok : ∀ n g a K, D82 n g a K → callM C X0 n g a K := fun n => orC_ok (impl_Literal_holds_ok hX n) (D81_ok hX n)
abbrev impl_Weaken_1.a : List TS := [.a [.o (.int .i64), .o .bool, .o (.dat 114 (.prod (.int .i64) (.prod (.int .i64) (.prod (.int .i64) (.prod (.int .i64) (.prod (.int .i64) (.prod (.sl 115 (.int .u64)) (.sl 2 (.int .i64))))))))), .o (.dat 114 (.prod (.int .i64) (.prod (.int .i64) (.prod (.int .i64) (.prod (.int .i64) (.prod (.int .i64) (.prod (.sl 115 (.int .u64)) (.sl 2 (.int .i64)))))))))], .c (.o (.pdat 39 (.sl 83 (.prod (.int .i64) (.sl 115 (.int .u64)))) 0))]
def impl_Weaken_1.u (n : Nat) (v : VA impl_Weaken_1.a) (K : RES → Prop) : Prop := impl_Weaken_1.c n v.1.1 v.1.2.1 v.1.2.2.1 v.1.2.2.2.1 v.2.1 (fun r0 => K ⟨.c (.bool r0), []⟩)
theorem impl_Weaken_1_ok : ∀ n v K, impl_Weaken_1.u n v K → callM C X0 n 50 (fillA impl_Weaken_1.a v) K :=
 call_tell hX (fn := Tryz.f50) (c := bodyOf Tryz.f50) (by kernel_rfl) (by kernel_rfl) (A := impl_Weaken_1.a) (u := impl_Weaken_1.u) (fun _ _ h => h) (call := D82) (lp := fun n => noL) (D82_ok hX) (fun n => noL_ok) (fun n v K => by kernel_rfl)
def D83 (n : Nat) : CallF := orC 50 impl_Weaken_1.a (impl_Weaken_1.u n) (D82 n)
theorem D83_ok : ∀ n g a K, D83 n g a K → callM C X0 n g a K := fun n => orC_ok (impl_Weaken_1_ok hX n) (D82_ok hX n)
abbrev slices_IndexFunc_Literal__impl_Weaken_1.a : List TS := [.c (.o (.dat 69 (.prod (.int .i64) (.prod .bool (.prod (.sl 114 (.prod (.int .i64) (.prod (.int .i64) (.prod (.int .i64) (.prod (.int .i64) (.prod (.int .i64) (.prod (.sl 115 (.int .u64)) (.sl 2 (.int .i64))))))))) (.sl 114 (.prod (.int .i64) (.prod (.int .i64) (.prod (.int .i64) (.prod (.int .i64) (.prod (.int .i64) (.prod (.sl 115 (.int .u64)) (.sl 2 (.int .i64)))))))))))))), .c (.fn 50 [(false, 1)] 0 [.pdat 39 (.sl 83 (.prod (.int .i64) (.sl 115 (.int .u64)))) 0])]
def slices_IndexFunc_Literal__impl_Weaken_1.u (n : Nat) (v : VA slices_IndexFunc_Literal__impl_Weaken_1.a) (K : RES → Prop) : Prop := slices_IndexFunc_Literal__impl_Weaken_1.c n v.1 v.2.1.1 (fun r0 => K ⟨.c (.int .i64 r0), []⟩)
abbrev slices_IndexFunc_Literal__impl_Weaken_1.l2.s : ST := ⟨[(0, .c (.o (.dat 69 (.prod (.int .i64) (.prod .bool (.prod (.sl 114 (.prod (.int .i64) (.prod (.int .i64) (.prod (.int .i64) (.prod (.int .i64) (.prod (.int .i64) (.prod (.sl 115 (.int .u64)) (.sl 2 (.int .i64))))))))) (.sl 114 (.prod (.int .i64) (.prod (.int .i64) (.prod (.int .i64) (.prod (.int .i64) (.prod (.int .i64) (.prod (.sl 115 (.int .u64)) (.sl 2 (.int .i64))))))))))))))), (1, .c (.fn 50 [(false, 1)] 0 [.pdat 39 (.sl 83 (.prod (.int .i64) (.sl 115 (.int .u64)))) 0])), (7, .c (.o (.int .i64))), (8, .c (.o (.int .i64)))], [], [], [], []⟩
def slices_IndexFunc_Literal__impl_Weaken_1.l2.u (n : Nat) (v : slices_IndexFunc_Literal__impl_Weaken_1.l2.s.V) (K : X → St → Prop) : Prop := slices_IndexFunc_Literal__impl_Weaken_1.l2 n v.1.1 v.1.2.1.1 v.1.2.2.1 v.1.2.2.2.1 (K (.exit 0) ⟨[], [], [], [], []⟩) (fun y0 => K .ret ⟨[(4, .c (.int .i64 y0))], [], [], [], []⟩)
theorem slices_IndexFunc_Literal__impl_Weaken_1.l2_ok : ∀ n v K, slices_IndexFunc_Literal__impl_Weaken_1.l2.u n v K → loopM C X0 n 80 2 (slices_IndexFunc_Literal__impl_Weaken_1.l2.s.fill v) K :=
 loop_tell hX (fn := Tryz.f80) (c := bodyOf Tryz.f80) (a := loopOf Tryz.f80 2) (li := liOf (C.fi 80).loops 2) (by kernel_rfl) (by kernel_rfl) (of_decide_eq_true rfl) (by kernel_rfl) (by kernel_rfl) (T := slices_IndexFunc_Literal__impl_Weaken_1.l2.s) (u := slices_IndexFunc_Literal__impl_Weaken_1.l2.u) (fun _ _ h => h) (call := D83) (lp := fun n => noL) (D83_ok hX) (fun n => noL_ok) (fun n v K => by kernel_rfl)
theorem slices_IndexFunc_Literal__impl_Weaken_1_ok : ∀ n v K, slices_IndexFunc_Literal__impl_Weaken_1.u n v K → callM C X0 n 80 (fillA slices_IndexFunc_Literal__impl_Weaken_1.a v) K :=
 call_tell hX (fn := Tryz.f80) (c := bodyOf Tryz.f80) (by kernel_rfl) (by kernel_rfl) (A := slices_IndexFunc_Literal__impl_Weaken_1.a) (u := slices_IndexFunc_Literal__impl_Weaken_1.u) (fun _ _ h => h) (call := D83) (lp := fun n => orL 2 slices_IndexFunc_Literal__impl_Weaken_1.l2.s (slices_IndexFunc_Literal__impl_Weaken_1.l2.u n) noL) (D83_ok hX) (fun n => (orL_ok (slices_IndexFunc_Literal__impl_Weaken_1.l2_ok hX n) noL_ok)) (fun n v K => by kernel_rfl)
def D84 (n : Nat) : CallF := orC 80 slices_IndexFunc_Literal__impl_Weaken_1.a (slices_IndexFunc_Literal__impl_Weaken_1.u n) (D83 n)
theorem D84_ok : ∀ n g a K, D84 n g a K → callM C X0 n g a K := fun n => orC_ok (slices_IndexFunc_Literal__impl_Weaken_1_ok hX n) (D83_ok hX n)
abbrev slices_DeleteFunc_Literal__impl_Weaken_1.a : List TS := [.c (.o (.row 69 (.prod (.int .i64) (.prod .bool (.prod (.sl 114 (.prod (.int .i64) (.prod (.int .i64) (.prod (.int .i64) (.prod (.int .i64) (.prod (.int .i64) (.prod (.sl 115 (.int .u64)) (.sl 2 (.int .i64))))))))) (.sl 114 (.prod (.int .i64) (.prod (.int .i64) (.prod (.int .i64) (.prod (.int .i64) (.prod (.int .i64) (.prod (.sl 115 (.int .u64)) (.sl 2 (.int .i64)))))))))))) 1)), .c (.fn 50 [(false, 1)] 0 [.pdat 39 (.sl 83 (.prod (.int .i64) (.sl 115 (.int .u64)))) 0])]
def slices_DeleteFunc_Literal__impl_Weaken_1.u (n : Nat) (v : VA slices_DeleteFunc_Literal__impl_Weaken_1.a) (K : RES → Prop) : Prop := slices_DeleteFunc_Literal__impl_Weaken_1.c n v.1 v.2.1.1 (fun r0 => K ⟨.c (.row ⟨69, .prod (.int .i64) (.prod .bool (.prod (.sl 114 (.prod (.int .i64) (.prod (.int .i64) (.prod (.int .i64) (.prod (.int .i64) (.prod (.int .i64) (.prod (.sl 115 (.int .u64)) (.sl 2 (.int .i64))))))))) (.sl 114 (.prod (.int .i64) (.prod (.int .i64) (.prod (.int .i64) (.prod (.int .i64) (.prod (.int .i64) (.prod (.sl 115 (.int .u64)) (.sl 2 (.int .i64))))))))))), r0, 1, none⟩), []⟩)
abbrev slices_DeleteFunc_Literal__impl_Weaken_1.l5.s : ST := ⟨[(0, .c (.o (.own 0))), (1, .c (.fn 50 [(false, 1)] 0 [.pdat 39 (.sl 83 (.prod (.int .i64) (.sl 115 (.int .u64)))) 0])), (5, .c (.o (.int .i64))), (6, .c (.o (.int .i64)))], [⟨0, 69, .prod (.int .i64) (.prod .bool (.prod (.sl 114 (.prod (.int .i64) (.prod (.int .i64) (.prod (.int .i64) (.prod (.int .i64) (.prod (.int .i64) (.prod (.sl 115 (.int .u64)) (.sl 2 (.int .i64))))))))) (.sl 114 (.prod (.int .i64) (.prod (.int .i64) (.prod (.int .i64) (.prod (.int .i64) (.prod (.int .i64) (.prod (.sl 115 (.int .u64)) (.sl 2 (.int .i64))))))))))), 1⟩], [], [], []⟩
def slices_DeleteFunc_Literal__impl_Weaken_1.l5.u (n : Nat) (v : slices_DeleteFunc_Literal__impl_Weaken_1.l5.s.V) (K : X → St → Prop) : Prop := slices_DeleteFunc_Literal__impl_Weaken_1.l5 n v.1.2.1.1 v.1.2.2.1 v.1.2.2.2.1 v.2.1.1 (fun y0 y1 => K (.exit 0) ⟨[(0, .c (.own 0)), (5, .c (.int .i64 y0))], [(0, ⟨69, .prod (.int .i64) (.prod .bool (.prod (.sl 114 (.prod (.int .i64) (.prod (.int .i64) (.prod (.int .i64) (.prod (.int .i64) (.prod (.int .i64) (.prod (.sl 115 (.int .u64)) (.sl 2 (.int .i64))))))))) (.sl 114 (.prod (.int .i64) (.prod (.int .i64) (.prod (.int .i64) (.prod (.int .i64) (.prod (.int .i64) (.prod (.sl 115 (.int .u64)) (.sl 2 (.int .i64))))))))))), y1, 1, none⟩)], [], [], []⟩)
theorem slices_DeleteFunc_Literal__impl_Weaken_1.l5_ok : ∀ n v K, slices_DeleteFunc_Literal__impl_Weaken_1.l5.u n v K → loopM C X0 n 48 5 (slices_DeleteFunc_Literal__impl_Weaken_1.l5.s.fill v) K :=
 loop_tell hX (fn := Tryz.f48) (c := bodyOf Tryz.f48) (a := loopOf Tryz.f48 5) (li := liOf (C.fi 48).loops 5) (by kernel_rfl) (by kernel_rfl) (of_decide_eq_true rfl) (by kernel_rfl) (by kernel_rfl) (T := slices_DeleteFunc_Literal__impl_Weaken_1.l5.s) (u := slices_DeleteFunc_Literal__impl_Weaken_1.l5.u) (fun _ _ h => h) (call := D84) (lp := fun n => noL) (D84_ok hX) (fun n => noL_ok) (fun n v K => by kernel_rfl)
theorem slices_DeleteFunc_Literal__impl_Weaken_1_ok : ∀ n v K, slices_DeleteFunc_Literal__impl_Weaken_1.u n v K → callM C X0 n 48 (fillA slices_DeleteFunc_Literal__impl_Weaken_1.a v) K :=
 call_tell hX (fn := Tryz.f48) (c := bodyOf Tryz.f48) (by kernel_rfl) (by kernel_rfl) (A := slices_DeleteFunc_Literal__impl_Weaken_1.a) (u := slices_DeleteFunc_Literal__impl_Weaken_1.u) (fun _ _ h => h) (call := D84) (lp := fun n => orL 5 slices_DeleteFunc_Literal__impl_Weaken_1.l5.s (slices_DeleteFunc_Literal__impl_Weaken_1.l5.u n) noL) (D84_ok hX) (fun n => (orL_ok (slices_DeleteFunc_Literal__impl_Weaken_1.l5_ok hX n) noL_ok)) (fun n v K => by kernel_rfl)
def D85 (n : Nat) : CallF := orC 48 slices_DeleteFunc_Literal__impl_Weaken_1.a (slices_DeleteFunc_Literal__impl_Weaken_1.u n) (D84 n)
theorem D85_ok : ∀ n g a K, D85 n g a K → callM C X0 n g a K := fun n => orC_ok (slices_DeleteFunc_Literal__impl_Weaken_1_ok hX n) (D84_ok hX n)
abbrev impl_idsOf.a : List TS := [.c (.o (.dat 69 (.prod (.int .i64) (.prod .bool (.prod (.sl 114 (.prod (.int .i64) (.prod (.int .i64) (.prod (.int .i64) (.prod (.int .i64) (.prod (.int .i64) (.prod (.sl 115 (.int .u64)) (.sl 2 (.int .i64))))))))) (.sl 114 (.prod (.int .i64) (.prod (.int .i64) (.prod (.int .i64) (.prod (.int .i64) (.prod (.int .i64) (.prod (.sl 115 (.int .u64)) (.sl 2 (.int .i64))))))))))))))]
def impl_idsOf.u (n : Nat) (v : VA impl_idsOf.a) (K : RES → Prop) : Prop := impl_idsOf.c n v.1 (fun r0 => K ⟨.c (.row ⟨2, .int .i64, r0, 99, none⟩), []⟩)
abbrev impl_idsOf.l3.s : ST := ⟨[(3, .c (.o (.own 96))), (7, .c (.o (.dat 69 (.prod (.int .i64) (.prod .bool (.prod (.sl 114 (.prod (.int .i64) (.prod (.int .i64) (.prod (.int .i64) (.prod (.int .i64) (.prod (.int .i64) (.prod (.sl 115 (.int .u64)) (.sl 2 (.int .i64))))))))) (.sl 114 (.prod (.int .i64) (.prod (.int .i64) (.prod (.int .i64) (.prod (.int .i64) (.prod (.int .i64) (.prod (.sl 115 (.int .u64)) (.sl 2 (.int .i64))))))))))))))), (8, .c (.o (.int .i64))), (9, .c (.o (.int .i64)))], [⟨96, 2, .int .i64, 99⟩], [], [], []⟩
def impl_idsOf.l3.u (n : Nat) (v : impl_idsOf.l3.s.V) (K : X → St → Prop) : Prop := impl_idsOf.l3 n v.1.2.1 v.1.2.2.1 v.1.2.2.2.1 v.2.1.1 (fun y0 => K (.exit 0) ⟨[(3, .c (.own 96))], [(96, ⟨2, .int .i64, y0, 99, none⟩)], [], [], []⟩)
theorem impl_idsOf.l3_ok : ∀ n v K, impl_idsOf.l3.u n v K → loopM C X0 n 47 3 (impl_idsOf.l3.s.fill v) K :=
 loop_tell hX (fn := Tryz.f47) (c := bodyOf Tryz.f47) (a := loopOf Tryz.f47 3) (li := liOf (C.fi 47).loops 3) (by kernel_rfl) (by kernel_rfl) (of_decide_eq_true rfl) (by kernel_rfl) (by kernel_rfl) (T := impl_idsOf.l3.s) (u := impl_idsOf.l3.u) (fun _ _ h => h) (call := D85) (lp := fun n => noL) (D85_ok hX) (fun n => noL_ok) (fun n v K => by kernel_rfl)
theorem impl_idsOf_ok : ∀ n v K, impl_idsOf.u n v K → callM C X0 n 47 (fillA impl_idsOf.a v) K :=
 call_tell hX (fn := Tryz.f47) (c := bodyOf Tryz.f47) (by kernel_rfl) (by kernel_rfl) (A := impl_idsOf.a) (u := impl_idsOf.u) (fun _ _ h => h) (call := D85) (lp := fun n => orL 3 impl_idsOf.l3.s (impl_idsOf.l3.u n) noL) (D85_ok hX) (fun n => (orL_ok (impl_idsOf.l3_ok hX n) noL_ok)) (fun n v K => by kernel_rfl)
def D86 (n : Nat) : CallF := orC 47 impl_idsOf.a (impl_idsOf.u n) (D85 n)
theorem D86_ok : ∀ n g a K, D86 n g a K → callM C X0 n g a K := fun n => orC_ok (impl_idsOf_ok hX n) (D85_ok hX n)
abbrev impl_Weaken.a : List TS := [.c (.o (.dat 63 (.prod .str (.int .i64)))), .c (.o (.dat 69 (.prod (.int .i64) (.prod .bool (.prod (.sl 114 (.prod (.int .i64) (.prod (.int .i64) (.prod (.int .i64) (.prod (.int .i64) (.prod (.int .i64) (.prod (.sl 115 (.int .u64)) (.sl 2 (.int .i64))))))))) (.sl 114 (.prod (.int .i64) (.prod (.int .i64) (.prod (.int .i64) (.prod (.int .i64) (.prod (.int .i64) (.prod (.sl 115 (.int .u64)) (.sl 2 (.int .i64)))))))))))))), .c (.o (.dat 83 (.prod (.int .i64) (.sl 115 (.int .u64)))))]
def impl_Weaken.u (n : Nat) (v : VA impl_Weaken.a) (K : RES → Prop) : Prop := impl_Weaken.c n v.1 v.2.1 v.2.2.1 (fun r0 r1 => K ⟨.tup [.c (.row ⟨2, .int .i64, r0, 99, none⟩), .c (.bool r1)], []⟩)
theorem impl_Weaken_ok : ∀ n v K, impl_Weaken.u n v K → callM C X0 n 17 (fillA impl_Weaken.a v) K :=
 call_tell hX (fn := Tryz.f17) (c := bodyOf Tryz.f17) (by kernel_rfl) (by kernel_rfl) (A := impl_Weaken.a) (u := impl_Weaken.u) (fun _ _ h => h) (call := D86) (lp := fun n => noL) (D86_ok hX) (fun n => noL_ok) (fun n v K => by kernel_rfl)
def D87 (n : Nat) : CallF := orC 17 impl_Weaken.a (impl_Weaken.u n) (D86 n)
theorem D87_ok : ∀ n g a K, D87 n g a K → callM C X0 n g a K := fun n => orC_ok (impl_Weaken_ok hX n) (D86_ok hX n)
abbrev laws_eqInt64S.a : List TS := [.c (.o (.dat 2 (.int .i64))), .c (.o (.dat 2 (.int .i64)))]
def laws_eqInt64S.u (n : Nat) (v : VA laws_eqInt64S.a) (K : RES → Prop) : Prop := laws_eqInt64S.c n v.1 v.2.1 (fun r0 => K ⟨.c (.bool r0), []⟩)
abbrev laws_eqInt64S.l4.s : ST := ⟨[(0, .c (.o (.dat 2 (.int .i64)))), (1, .c (.o (.dat 2 (.int .i64)))), (5, .c (.o (.int .i64)))], [], [], [], []⟩
def laws_eqInt64S.l4.u (n : Nat) (v : laws_eqInt64S.l4.s.V) (K : X → St → Prop) : Prop := laws_eqInt64S.l4 n v.1.1 v.1.2.1 v.1.2.2.1 (K (.exit 0) ⟨[], [], [], [], []⟩) (fun y0 => K .ret ⟨[(4, .c (.bool y0))], [], [], [], []⟩)
theorem laws_eqInt64S.l4_ok : ∀ n v K, laws_eqInt64S.l4.u n v K → loopM C X0 n 18 4 (laws_eqInt64S.l4.s.fill v) K :=
 loop_tell hX (fn := Tryz.f18) (c := bodyOf Tryz.f18) (a := loopOf Tryz.f18 4) (li := liOf (C.fi 18).loops 4) (by kernel_rfl) (by kernel_rfl) (of_decide_eq_true rfl) (by kernel_rfl) (by kernel_rfl) (T := laws_eqInt64S.l4.s) (u := laws_eqInt64S.l4.u) (fun _ _ h => h) (call := D87) (lp := fun n => noL) (D87_ok hX) (fun n => noL_ok) (fun n v K => by kernel_rfl)
theorem laws_eqInt64S_ok : ∀ n v K, laws_eqInt64S.u n v K → callM C X0 n 18 (fillA laws_eqInt64S.a v) K :=
 call_tell hX (fn := Tryz.f18) (c := bodyOf Tryz.f18) (by kernel_rfl) (by kernel_rfl) (A := laws_eqInt64S.a) (u := laws_eqInt64S.u) (fun _ _ h => h) (call := D87) (lp := fun n => orL 4 laws_eqInt64S.l4.s (laws_eqInt64S.l4.u n) noL) (D87_ok hX) (fun n => (orL_ok (laws_eqInt64S.l4_ok hX n) noL_ok)) (fun n v K => by kernel_rfl)
def D88 (n : Nat) : CallF := orC 18 laws_eqInt64S.a (laws_eqInt64S.u n) (D87 n)
theorem D88_ok : ∀ n g a K, D88 n g a K → callM C X0 n g a K := fun n => orC_ok (laws_eqInt64S_ok hX n) (D87_ok hX n)
abbrev laws_eqDecl.a : List TS := [.a [.o .str, .o (.int .i64)], .a [.o .str, .o (.int .i64)]]
def laws_eqDecl.u (n : Nat) (v : VA laws_eqDecl.a) (K : RES → Prop) : Prop := laws_eqDecl.c n v.1.1 v.1.2.1 v.2.1.1 v.2.1.2.1 (fun r0 => K ⟨.c (.bool r0), []⟩)
theorem laws_eqDecl_ok : ∀ n v K, laws_eqDecl.u n v K → callM C X0 n 38 (fillA laws_eqDecl.a v) K :=
 call_tell hX (fn := Tryz.f38) (c := bodyOf Tryz.f38) (by kernel_rfl) (by kernel_rfl) (A := laws_eqDecl.a) (u := laws_eqDecl.u) (fun _ _ h => h) (call := D88) (lp := fun n => noL) (D88_ok hX) (fun n => noL_ok) (fun n v K => by kernel_rfl)
def D89 (n : Nat) : CallF := orC 38 laws_eqDecl.a (laws_eqDecl.u n) (D88 n)
theorem D89_ok : ∀ n g a K, D89 n g a K → callM C X0 n g a K := fun n => orC_ok (laws_eqDecl_ok hX n) (D88_ok hX n)
abbrev laws_eqDeclS.a : List TS := [.c (.o (.dat 63 (.prod .str (.int .i64)))), .c (.o (.dat 63 (.prod .str (.int .i64))))]
def laws_eqDeclS.u (n : Nat) (v : VA laws_eqDeclS.a) (K : RES → Prop) : Prop := laws_eqDeclS.c n v.1 v.2.1 (fun r0 => K ⟨.c (.bool r0), []⟩)
abbrev laws_eqDeclS.l4.s : ST := ⟨[(0, .c (.o (.dat 63 (.prod .str (.int .i64))))), (1, .c (.o (.dat 63 (.prod .str (.int .i64))))), (5, .c (.o (.int .i64)))], [], [], [], []⟩
def laws_eqDeclS.l4.u (n : Nat) (v : laws_eqDeclS.l4.s.V) (K : X → St → Prop) : Prop := laws_eqDeclS.l4 n v.1.1 v.1.2.1 v.1.2.2.1 (K (.exit 0) ⟨[], [], [], [], []⟩) (fun y0 => K .ret ⟨[(4, .c (.bool y0))], [], [], [], []⟩)
theorem laws_eqDeclS.l4_ok : ∀ n v K, laws_eqDeclS.l4.u n v K → loopM C X0 n 12 4 (laws_eqDeclS.l4.s.fill v) K :=
 loop_tell hX (fn := Tryz.f12) (c := bodyOf Tryz.f12) (a := loopOf Tryz.f12 4) (li := liOf (C.fi 12).loops 4) (by kernel_rfl) (by kernel_rfl) (of_decide_eq_true rfl) (by kernel_rfl) (by kernel_rfl) (T := laws_eqDeclS.l4.s) (u := laws_eqDeclS.l4.u) (fun _ _ h => h) (call := D89) (lp := fun n => noL) (D89_ok hX) (fun n => noL_ok) (fun n v K => by kernel_rfl)
theorem laws_eqDeclS_ok : ∀ n v K, laws_eqDeclS.u n v K → callM C X0 n 12 (fillA laws_eqDeclS.a v) K :=
 call_tell hX (fn := Tryz.f12) (c := bodyOf Tryz.f12) (by kernel_rfl) (by kernel_rfl) (A := laws_eqDeclS.a) (u := laws_eqDeclS.u) (fun _ _ h => h) (call := D89) (lp := fun n => orL 4 laws_eqDeclS.l4.s (laws_eqDeclS.l4.u n) noL) (D89_ok hX) (fun n => (orL_ok (laws_eqDeclS.l4_ok hX n) noL_ok)) (fun n v K => by kernel_rfl)
def D90 (n : Nat) : CallF := orC 12 laws_eqDeclS.a (laws_eqDeclS.u n) (D89 n)
theorem D90_ok : ∀ n g a K, D90 n g a K → callM C X0 n g a K := fun n => orC_ok (laws_eqDeclS_ok hX n) (D89_ok hX n)
abbrev laws_eqUint64S.a : List TS := [.c (.o (.dat 115 (.int .u64))), .c (.o (.dat 115 (.int .u64)))]
def laws_eqUint64S.u (n : Nat) (v : VA laws_eqUint64S.a) (K : RES → Prop) : Prop := laws_eqUint64S.c n v.1 v.2.1 (fun r0 => K ⟨.c (.bool r0), []⟩)
abbrev laws_eqUint64S.l4.s : ST := ⟨[(0, .c (.o (.dat 115 (.int .u64)))), (1, .c (.o (.dat 115 (.int .u64)))), (5, .c (.o (.int .i64)))], [], [], [], []⟩
def laws_eqUint64S.l4.u (n : Nat) (v : laws_eqUint64S.l4.s.V) (K : X → St → Prop) : Prop := laws_eqUint64S.l4 n v.1.1 v.1.2.1 v.1.2.2.1 (K (.exit 0) ⟨[], [], [], [], []⟩) (fun y0 => K .ret ⟨[(4, .c (.bool y0))], [], [], [], []⟩)
theorem laws_eqUint64S.l4_ok : ∀ n v K, laws_eqUint64S.l4.u n v K → loopM C X0 n 83 4 (laws_eqUint64S.l4.s.fill v) K :=
 loop_tell hX (fn := Tryz.f83) (c := bodyOf Tryz.f83) (a := loopOf Tryz.f83 4) (li := liOf (C.fi 83).loops 4) (by kernel_rfl) (by kernel_rfl) (of_decide_eq_true rfl) (by kernel_rfl) (by kernel_rfl) (T := laws_eqUint64S.l4.s) (u := laws_eqUint64S.l4.u) (fun _ _ h => h) (call := D90) (lp := fun n => noL) (D90_ok hX) (fun n => noL_ok) (fun n v K => by kernel_rfl)
theorem laws_eqUint64S_ok : ∀ n v K, laws_eqUint64S.u n v K → callM C X0 n 83 (fillA laws_eqUint64S.a v) K :=
 call_tell hX (fn := Tryz.f83) (c := bodyOf Tryz.f83) (by kernel_rfl) (by kernel_rfl) (A := laws_eqUint64S.a) (u := laws_eqUint64S.u) (fun _ _ h => h) (call := D90) (lp := fun n => orL 4 laws_eqUint64S.l4.s (laws_eqUint64S.l4.u n) noL) (D90_ok hX) (fun n => (orL_ok (laws_eqUint64S.l4_ok hX n) noL_ok)) (fun n v K => by kernel_rfl)
def D91 (n : Nat) : CallF := orC 83 laws_eqUint64S.a (laws_eqUint64S.u n) (D90 n)
theorem D91_ok : ∀ n g a K, D91 n g a K → callM C X0 n g a K := fun n => orC_ok (laws_eqUint64S_ok hX n) (D90_ok hX n)
abbrev laws_eqBits.a : List TS := [.a [.o (.int .i64), .o (.dat 115 (.int .u64))], .a [.o (.int .i64), .o (.dat 115 (.int .u64))]]
def laws_eqBits.u (n : Nat) (v : VA laws_eqBits.a) (K : RES → Prop) : Prop := laws_eqBits.c n v.1.1 v.1.2.1 v.2.1.1 v.2.1.2.1 (fun r0 => K ⟨.c (.bool r0), []⟩)
theorem laws_eqBits_ok : ∀ n v K, laws_eqBits.u n v K → callM C X0 n 52 (fillA laws_eqBits.a v) K :=
 call_tell hX (fn := Tryz.f52) (c := bodyOf Tryz.f52) (by kernel_rfl) (by kernel_rfl) (A := laws_eqBits.a) (u := laws_eqBits.u) (fun _ _ h => h) (call := D91) (lp := fun n => noL) (D91_ok hX) (fun n => noL_ok) (fun n v K => by kernel_rfl)
def D92 (n : Nat) : CallF := orC 52 laws_eqBits.a (laws_eqBits.u n) (D91 n)
theorem D92_ok : ∀ n g a K, D92 n g a K → callM C X0 n g a K := fun n => orC_ok (laws_eqBits_ok hX n) (D91_ok hX n)
abbrev laws_eqTNode.a : List TS := [.a [.o (.int .i64), .o (.int .i64), .o (.int .i64), .o (.int .i64), .o (.int .i64), .o (.dat 115 (.int .u64)), .o (.dat 2 (.int .i64))], .a [.o (.int .i64), .o (.int .i64), .o (.int .i64), .o (.int .i64), .o (.int .i64), .o (.dat 115 (.int .u64)), .o (.dat 2 (.int .i64))]]
def laws_eqTNode.u (n : Nat) (v : VA laws_eqTNode.a) (K : RES → Prop) : Prop := laws_eqTNode.c n v.1.1 v.1.2.1 v.1.2.2.1 v.1.2.2.2.1 v.1.2.2.2.2.1 v.1.2.2.2.2.2.1 v.1.2.2.2.2.2.2.1 v.2.1.1 v.2.1.2.1 v.2.1.2.2.1 v.2.1.2.2.2.1 v.2.1.2.2.2.2.1 v.2.1.2.2.2.2.2.1 v.2.1.2.2.2.2.2.2.1 (fun r0 => K ⟨.c (.bool r0), []⟩)
theorem laws_eqTNode_ok : ∀ n v K, laws_eqTNode.u n v K → callM C X0 n 108 (fillA laws_eqTNode.a v) K :=
 call_tell hX (fn := Tryz.f108) (c := bodyOf Tryz.f108) (by kernel_rfl) (by kernel_rfl) (A := laws_eqTNode.a) (u := laws_eqTNode.u) (fun _ _ h => h) (call := D92) (lp := fun n => noL) (D92_ok hX) (fun n => noL_ok) (fun n v K => by kernel_rfl)
def D93 (n : Nat) : CallF := orC 108 laws_eqTNode.a (laws_eqTNode.u n) (D92 n)
theorem D93_ok : ∀ n g a K, D93 n g a K → callM C X0 n g a K := fun n => orC_ok (laws_eqTNode_ok hX n) (D92_ok hX n)
abbrev laws_eqTNodeS.a : List TS := [.c (.o (.dat 114 (.prod (.int .i64) (.prod (.int .i64) (.prod (.int .i64) (.prod (.int .i64) (.prod (.int .i64) (.prod (.sl 115 (.int .u64)) (.sl 2 (.int .i64)))))))))), .c (.o (.dat 114 (.prod (.int .i64) (.prod (.int .i64) (.prod (.int .i64) (.prod (.int .i64) (.prod (.int .i64) (.prod (.sl 115 (.int .u64)) (.sl 2 (.int .i64))))))))))]
def laws_eqTNodeS.u (n : Nat) (v : VA laws_eqTNodeS.a) (K : RES → Prop) : Prop := laws_eqTNodeS.c n v.1 v.2.1 (fun r0 => K ⟨.c (.bool r0), []⟩)
abbrev laws_eqTNodeS.l4.s : ST := ⟨[(0, .c (.o (.dat 114 (.prod (.int .i64) (.prod (.int .i64) (.prod (.int .i64) (.prod (.int .i64) (.prod (.int .i64) (.prod (.sl 115 (.int .u64)) (.sl 2 (.int .i64))))))))))), (1, .c (.o (.dat 114 (.prod (.int .i64) (.prod (.int .i64) (.prod (.int .i64) (.prod (.int .i64) (.prod (.int .i64) (.prod (.sl 115 (.int .u64)) (.sl 2 (.int .i64))))))))))), (5, .c (.o (.int .i64)))], [], [], [], []⟩
def laws_eqTNodeS.l4.u (n : Nat) (v : laws_eqTNodeS.l4.s.V) (K : X → St → Prop) : Prop := laws_eqTNodeS.l4 n v.1.1 v.1.2.1 v.1.2.2.1 (K (.exit 0) ⟨[], [], [], [], []⟩) (fun y0 => K .ret ⟨[(4, .c (.bool y0))], [], [], [], []⟩)
theorem laws_eqTNodeS.l4_ok : ∀ n v K, laws_eqTNodeS.l4.u n v K → loopM C X0 n 89 4 (laws_eqTNodeS.l4.s.fill v) K :=
 loop_tell hX (fn := Tryz.f89) (c := bodyOf Tryz.f89) (a := loopOf Tryz.f89 4) (li := liOf (C.fi 89).loops 4) (by kernel_rfl) (by kernel_rfl) (of_decide_eq_true rfl) (by kernel_rfl) (by kernel_rfl) (T := laws_eqTNodeS.l4.s) (u := laws_eqTNodeS.l4.u) (fun _ _ h => h) (call := D93) (lp := fun n => noL) (D93_ok hX) (fun n => noL_ok) (fun n v K => by kernel_rfl)
theorem laws_eqTNodeS_ok : ∀ n v K, laws_eqTNodeS.u n v K → callM C X0 n 89 (fillA laws_eqTNodeS.a v) K :=
 call_tell hX (fn := Tryz.f89) (c := bodyOf Tryz.f89) (by kernel_rfl) (by kernel_rfl) (A := laws_eqTNodeS.a) (u := laws_eqTNodeS.u) (fun _ _ h => h) (call := D93) (lp := fun n => orL 4 laws_eqTNodeS.l4.s (laws_eqTNodeS.l4.u n) noL) (D93_ok hX) (fun n => (orL_ok (laws_eqTNodeS.l4_ok hX n) noL_ok)) (fun n v K => by kernel_rfl)
def D94 (n : Nat) : CallF := orC 89 laws_eqTNodeS.a (laws_eqTNodeS.u n) (D93 n)
theorem D94_ok : ∀ n g a K, D94 n g a K → callM C X0 n g a K := fun n => orC_ok (laws_eqTNodeS_ok hX n) (D93_ok hX n)
abbrev laws_eqTerm.a : List TS := [.a [.o (.dat 114 (.prod (.int .i64) (.prod (.int .i64) (.prod (.int .i64) (.prod (.int .i64) (.prod (.int .i64) (.prod (.sl 115 (.int .u64)) (.sl 2 (.int .i64)))))))))], .a [.o (.dat 114 (.prod (.int .i64) (.prod (.int .i64) (.prod (.int .i64) (.prod (.int .i64) (.prod (.int .i64) (.prod (.sl 115 (.int .u64)) (.sl 2 (.int .i64)))))))))]]
def laws_eqTerm.u (n : Nat) (v : VA laws_eqTerm.a) (K : RES → Prop) : Prop := laws_eqTerm.c n v.1.1 v.2.1.1 (fun r0 => K ⟨.c (.bool r0), []⟩)
theorem laws_eqTerm_ok : ∀ n v K, laws_eqTerm.u n v K → callM C X0 n 69 (fillA laws_eqTerm.a v) K :=
 call_tell hX (fn := Tryz.f69) (c := bodyOf Tryz.f69) (by kernel_rfl) (by kernel_rfl) (A := laws_eqTerm.a) (u := laws_eqTerm.u) (fun _ _ h => h) (call := D94) (lp := fun n => noL) (D94_ok hX) (fun n => noL_ok) (fun n v K => by kernel_rfl)
def D95 (n : Nat) : CallF := orC 69 laws_eqTerm.a (laws_eqTerm.u n) (D94 n)
theorem D95_ok : ∀ n g a K, D95 n g a K → callM C X0 n g a K := fun n => orC_ok (laws_eqTerm_ok hX n) (D94_ok hX n)
abbrev laws_eqLiteral.a : List TS := [.a [.o (.int .i64), .o .bool, .o (.dat 114 (.prod (.int .i64) (.prod (.int .i64) (.prod (.int .i64) (.prod (.int .i64) (.prod (.int .i64) (.prod (.sl 115 (.int .u64)) (.sl 2 (.int .i64))))))))), .o (.dat 114 (.prod (.int .i64) (.prod (.int .i64) (.prod (.int .i64) (.prod (.int .i64) (.prod (.int .i64) (.prod (.sl 115 (.int .u64)) (.sl 2 (.int .i64)))))))))], .a [.o (.int .i64), .o .bool, .o (.dat 114 (.prod (.int .i64) (.prod (.int .i64) (.prod (.int .i64) (.prod (.int .i64) (.prod (.int .i64) (.prod (.sl 115 (.int .u64)) (.sl 2 (.int .i64))))))))), .o (.dat 114 (.prod (.int .i64) (.prod (.int .i64) (.prod (.int .i64) (.prod (.int .i64) (.prod (.int .i64) (.prod (.sl 115 (.int .u64)) (.sl 2 (.int .i64)))))))))]]
def laws_eqLiteral.u (n : Nat) (v : VA laws_eqLiteral.a) (K : RES → Prop) : Prop := laws_eqLiteral.c n v.1.1 v.1.2.1 v.1.2.2.1 v.1.2.2.2.1 v.2.1.1 v.2.1.2.1 v.2.1.2.2.1 v.2.1.2.2.2.1 (fun r0 => K ⟨.c (.bool r0), []⟩)
theorem laws_eqLiteral_ok : ∀ n v K, laws_eqLiteral.u n v K → callM C X0 n 39 (fillA laws_eqLiteral.a v) K :=
 call_tell hX (fn := Tryz.f39) (c := bodyOf Tryz.f39) (by kernel_rfl) (by kernel_rfl) (A := laws_eqLiteral.a) (u := laws_eqLiteral.u) (fun _ _ h => h) (call := D95) (lp := fun n => noL) (D95_ok hX) (fun n => noL_ok) (fun n v K => by kernel_rfl)
def D96 (n : Nat) : CallF := orC 39 laws_eqLiteral.a (laws_eqLiteral.u n) (D95 n)
theorem D96_ok : ∀ n g a K, D96 n g a K → callM C X0 n g a K := fun n => orC_ok (laws_eqLiteral_ok hX n) (D95_ok hX n)
abbrev laws_eqLiteralS.a : List TS := [.c (.o (.dat 69 (.prod (.int .i64) (.prod .bool (.prod (.sl 114 (.prod (.int .i64) (.prod (.int .i64) (.prod (.int .i64) (.prod (.int .i64) (.prod (.int .i64) (.prod (.sl 115 (.int .u64)) (.sl 2 (.int .i64))))))))) (.sl 114 (.prod (.int .i64) (.prod (.int .i64) (.prod (.int .i64) (.prod (.int .i64) (.prod (.int .i64) (.prod (.sl 115 (.int .u64)) (.sl 2 (.int .i64)))))))))))))), .c (.o (.dat 69 (.prod (.int .i64) (.prod .bool (.prod (.sl 114 (.prod (.int .i64) (.prod (.int .i64) (.prod (.int .i64) (.prod (.int .i64) (.prod (.int .i64) (.prod (.sl 115 (.int .u64)) (.sl 2 (.int .i64))))))))) (.sl 114 (.prod (.int .i64) (.prod (.int .i64) (.prod (.int .i64) (.prod (.int .i64) (.prod (.int .i64) (.prod (.sl 115 (.int .u64)) (.sl 2 (.int .i64))))))))))))))]
def laws_eqLiteralS.u (n : Nat) (v : VA laws_eqLiteralS.a) (K : RES → Prop) : Prop := laws_eqLiteralS.c n v.1 v.2.1 (fun r0 => K ⟨.c (.bool r0), []⟩)
abbrev laws_eqLiteralS.l4.s : ST := ⟨[(0, .c (.o (.dat 69 (.prod (.int .i64) (.prod .bool (.prod (.sl 114 (.prod (.int .i64) (.prod (.int .i64) (.prod (.int .i64) (.prod (.int .i64) (.prod (.int .i64) (.prod (.sl 115 (.int .u64)) (.sl 2 (.int .i64))))))))) (.sl 114 (.prod (.int .i64) (.prod (.int .i64) (.prod (.int .i64) (.prod (.int .i64) (.prod (.int .i64) (.prod (.sl 115 (.int .u64)) (.sl 2 (.int .i64))))))))))))))), (1, .c (.o (.dat 69 (.prod (.int .i64) (.prod .bool (.prod (.sl 114 (.prod (.int .i64) (.prod (.int .i64) (.prod (.int .i64) (.prod (.int .i64) (.prod (.int .i64) (.prod (.sl 115 (.int .u64)) (.sl 2 (.int .i64))))))))) (.sl 114 (.prod (.int .i64) (.prod (.int .i64) (.prod (.int .i64) (.prod (.int .i64) (.prod (.int .i64) (.prod (.sl 115 (.int .u64)) (.sl 2 (.int .i64))))))))))))))), (5, .c (.o (.int .i64)))], [], [], [], []⟩
def laws_eqLiteralS.l4.u (n : Nat) (v : laws_eqLiteralS.l4.s.V) (K : X → St → Prop) : Prop := laws_eqLiteralS.l4 n v.1.1 v.1.2.1 v.1.2.2.1 (K (.exit 0) ⟨[], [], [], [], []⟩) (fun y0 => K .ret ⟨[(4, .c (.bool y0))], [], [], [], []⟩)
theorem laws_eqLiteralS.l4_ok : ∀ n v K, laws_eqLiteralS.l4.u n v K → loopM C X0 n 13 4 (laws_eqLiteralS.l4.s.fill v) K :=
 loop_tell hX (fn := Tryz.f13) (c := bodyOf Tryz.f13) (a := loopOf Tryz.f13 4) (li := liOf (C.fi 13).loops 4) (by kernel_rfl) (by kernel_rfl) (of_decide_eq_true rfl) (by kernel_rfl) (by kernel_rfl) (T := laws_eqLiteralS.l4.s) (u := laws_eqLiteralS.l4.u) (fun _ _ h => h) (call := D96) (lp := fun n => noL) (D96_ok hX) (fun n => noL_ok) (fun n v K => by kernel_rfl)
theorem laws_eqLiteralS_ok : ∀ n v K, laws_eqLiteralS.u n v K → callM C X0 n 13 (fillA laws_eqLiteralS.a v) K :=
 call_tell hX (fn := Tryz.f13) (c := bodyOf Tryz.f13) (by kernel_rfl) (by kernel_rfl) (A := laws_eqLiteralS.a) (u := laws_eqLiteralS.u) (fun _ _ h => h) (call := D96) (lp := fun n => orL 4 laws_eqLiteralS.l4.s (laws_eqLiteralS.l4.u n) noL) (D96_ok hX) (fun n => (orL_ok (laws_eqLiteralS.l4_ok hX n) noL_ok)) (fun n v K => by kernel_rfl)
def D97 (n : Nat) : CallF := orC 13 laws_eqLiteralS.a (laws_eqLiteralS.u n) (D96 n)
theorem D97_ok : ∀ n g a K, D97 n g a K → callM C X0 n g a K := fun n => orC_ok (laws_eqLiteralS_ok hX n) (D96_ok hX n)
abbrev laws_eqBitsS.a : List TS := [.c (.o (.dat 83 (.prod (.int .i64) (.sl 115 (.int .u64))))), .c (.o (.dat 83 (.prod (.int .i64) (.sl 115 (.int .u64)))))]
def laws_eqBitsS.u (n : Nat) (v : VA laws_eqBitsS.a) (K : RES → Prop) : Prop := laws_eqBitsS.c n v.1 v.2.1 (fun r0 => K ⟨.c (.bool r0), []⟩)
abbrev laws_eqBitsS.l4.s : ST := ⟨[(0, .c (.o (.dat 83 (.prod (.int .i64) (.sl 115 (.int .u64)))))), (1, .c (.o (.dat 83 (.prod (.int .i64) (.sl 115 (.int .u64)))))), (5, .c (.o (.int .i64)))], [], [], [], []⟩
def laws_eqBitsS.l4.u (n : Nat) (v : laws_eqBitsS.l4.s.V) (K : X → St → Prop) : Prop := laws_eqBitsS.l4 n v.1.1 v.1.2.1 v.1.2.2.1 (K (.exit 0) ⟨[], [], [], [], []⟩) (fun y0 => K .ret ⟨[(4, .c (.bool y0))], [], [], [], []⟩)
theorem laws_eqBitsS.l4_ok : ∀ n v K, laws_eqBitsS.l4.u n v K → loopM C X0 n 19 4 (laws_eqBitsS.l4.s.fill v) K :=
 loop_tell hX (fn := Tryz.f19) (c := bodyOf Tryz.f19) (a := loopOf Tryz.f19 4) (li := liOf (C.fi 19).loops 4) (by kernel_rfl) (by kernel_rfl) (of_decide_eq_true rfl) (by kernel_rfl) (by kernel_rfl) (T := laws_eqBitsS.l4.s) (u := laws_eqBitsS.l4.u) (fun _ _ h => h) (call := D97) (lp := fun n => noL) (D97_ok hX) (fun n => noL_ok) (fun n v K => by kernel_rfl)
theorem laws_eqBitsS_ok : ∀ n v K, laws_eqBitsS.u n v K → callM C X0 n 19 (fillA laws_eqBitsS.a v) K :=
 call_tell hX (fn := Tryz.f19) (c := bodyOf Tryz.f19) (by kernel_rfl) (by kernel_rfl) (A := laws_eqBitsS.a) (u := laws_eqBitsS.u) (fun _ _ h => h) (call := D97) (lp := fun n => orL 4 laws_eqBitsS.l4.s (laws_eqBitsS.l4.u n) noL) (D97_ok hX) (fun n => (orL_ok (laws_eqBitsS.l4_ok hX n) noL_ok)) (fun n v K => by kernel_rfl)
def D98 (n : Nat) : CallF := orC 19 laws_eqBitsS.a (laws_eqBitsS.u n) (D97 n)
theorem D98_ok : ∀ n g a K, D98 n g a K → callM C X0 n g a K := fun n => orC_ok (laws_eqBitsS_ok hX n) (D97_ok hX n)
abbrev laws_markText.a : List TS := [.c (.o (.int .i64))]
def laws_markText.u (n : Nat) (v : VA laws_markText.a) (K : RES → Prop) : Prop := laws_markText.c n v.1 (fun r0 => K ⟨.c (.str r0), []⟩)
abbrev laws_markText.l4.s : ST := ⟨[(0, .c (.o (.int .i64))), (3, .c (.o .str))], [], [], [], []⟩
def laws_markText.l4.u (n : Nat) (v : laws_markText.l4.s.V) (K : X → St → Prop) : Prop := laws_markText.l4 n v.1.1 v.1.2.1 (fun y0 => K (.exit 0) ⟨[(3, .c (.str y0))], [], [], [], []⟩)
theorem laws_markText.l4_ok : ∀ n v K, laws_markText.l4.u n v K → loopM C X0 n 53 4 (laws_markText.l4.s.fill v) K :=
 loop_tell hX (fn := Tryz.f53) (c := bodyOf Tryz.f53) (a := loopOf Tryz.f53 4) (li := liOf (C.fi 53).loops 4) (by kernel_rfl) (by kernel_rfl) (of_decide_eq_true rfl) (by kernel_rfl) (by kernel_rfl) (T := laws_markText.l4.s) (u := laws_markText.l4.u) (fun _ _ h => h) (call := D98) (lp := fun n => noL) (D98_ok hX) (fun n => noL_ok) (fun n v K => by kernel_rfl)
theorem laws_markText_ok : ∀ n v K, laws_markText.u n v K → callM C X0 n 53 (fillA laws_markText.a v) K :=
 call_tell hX (fn := Tryz.f53) (c := bodyOf Tryz.f53) (by kernel_rfl) (by kernel_rfl) (A := laws_markText.a) (u := laws_markText.u) (fun _ _ h => h) (call := D98) (lp := fun n => orL 4 laws_markText.l4.s (laws_markText.l4.u n) noL) (D98_ok hX) (fun n => (orL_ok (laws_markText.l4_ok hX n) noL_ok)) (fun n v K => by kernel_rfl)
def D99 (n : Nat) : CallF := orC 53 laws_markText.a (laws_markText.u n) (D98 n)
theorem D99_ok : ∀ n g a K, D99 n g a K → callM C X0 n g a K := fun n => orC_ok (laws_markText_ok hX n) (D98_ok hX n)
abbrev laws_markDeclS.a : List TS := [.c (.o (.row 63 (.prod .str (.int .i64)) 99)), .c (.o (.int .i64))]
def laws_markDeclS.u (n : Nat) (v : VA laws_markDeclS.a) (K : RES → Prop) : Prop := laws_markDeclS.c n v.1 v.2.1 (fun r0 r1 => K ⟨.c (.int .i64 r0), [[.row ⟨63, .prod .str (.int .i64), r1, 99, none⟩]]⟩)
abbrev laws_markDeclS.l2.s : ST := ⟨[(0, .c (.o (.own 0))), (1, .c (.o (.int .i64))), (5, .c (.o (.int .i64)))], [⟨0, 63, .prod .str (.int .i64), 99⟩], [], [0], []⟩
def laws_markDeclS.l2.u (n : Nat) (v : laws_markDeclS.l2.s.V) (K : X → St → Prop) : Prop := laws_markDeclS.l2 n v.1.2.1 v.1.2.2.1 v.2.1.1 (fun y0 y1 => K (.exit 0) ⟨[(1, .c (.int .i64 y0))], [(0, ⟨63, .prod .str (.int .i64), y1, 99, none⟩)], [], [0], []⟩)
theorem laws_markDeclS.l2_ok : ∀ n v K, laws_markDeclS.l2.u n v K → loopM C X0 n 20 2 (laws_markDeclS.l2.s.fill v) K :=
 loop_tell hX (fn := Tryz.f20) (c := bodyOf Tryz.f20) (a := loopOf Tryz.f20 2) (li := liOf (C.fi 20).loops 2) (by kernel_rfl) (by kernel_rfl) (of_decide_eq_true rfl) (by kernel_rfl) (by kernel_rfl) (T := laws_markDeclS.l2.s) (u := laws_markDeclS.l2.u) (fun _ _ h => h) (call := D99) (lp := fun n => noL) (D99_ok hX) (fun n => noL_ok) (fun n v K => by kernel_rfl)
theorem laws_markDeclS_ok : ∀ n v K, laws_markDeclS.u n v K → callM C X0 n 20 (fillA laws_markDeclS.a v) K :=
 call_tell hX (fn := Tryz.f20) (c := bodyOf Tryz.f20) (by kernel_rfl) (by kernel_rfl) (A := laws_markDeclS.a) (u := laws_markDeclS.u) (fun _ _ h => h) (call := D99) (lp := fun n => orL 2 laws_markDeclS.l2.s (laws_markDeclS.l2.u n) noL) (D99_ok hX) (fun n => (orL_ok (laws_markDeclS.l2_ok hX n) noL_ok)) (fun n v K => by kernel_rfl)
def D100 (n : Nat) : CallF := orC 20 laws_markDeclS.a (laws_markDeclS.u n) (D99 n)
theorem D100_ok : ∀ n g a K, D100 n g a K → callM C X0 n g a K := fun n => orC_ok (laws_markDeclS_ok hX n) (D99_ok hX n)
abbrev laws_markUint64S.a : List TS := [.c (.o (.row 115 (.int .u64) 97)), .c (.o (.int .i64))]
def laws_markUint64S.u (n : Nat) (v : VA laws_markUint64S.a) (K : RES → Prop) : Prop := laws_markUint64S.c n v.1 v.2.1 (fun r0 r1 => K ⟨.c (.int .i64 r0), [[.row ⟨115, .int .u64, r1, 97, none⟩]]⟩)
abbrev laws_markUint64S.l2.s : ST := ⟨[(0, .c (.o (.own 0))), (1, .c (.o (.int .i64))), (5, .c (.o (.int .i64)))], [⟨0, 115, .int .u64, 97⟩], [], [0], []⟩
def laws_markUint64S.l2.u (n : Nat) (v : laws_markUint64S.l2.s.V) (K : X → St → Prop) : Prop := laws_markUint64S.l2 n v.1.2.1 v.1.2.2.1 v.2.1.1 (fun y0 y1 => K (.exit 0) ⟨[(1, .c (.int .i64 y0))], [(0, ⟨115, .int .u64, y1, 97, none⟩)], [], [0], []⟩)
theorem laws_markUint64S.l2_ok : ∀ n v K, laws_markUint64S.l2.u n v K → loopM C X0 n 55 2 (laws_markUint64S.l2.s.fill v) K :=
 loop_tell hX (fn := Tryz.f55) (c := bodyOf Tryz.f55) (a := loopOf Tryz.f55 2) (li := liOf (C.fi 55).loops 2) (by kernel_rfl) (by kernel_rfl) (of_decide_eq_true rfl) (by kernel_rfl) (by kernel_rfl) (T := laws_markUint64S.l2.s) (u := laws_markUint64S.l2.u) (fun _ _ h => h) (call := D100) (lp := fun n => noL) (D100_ok hX) (fun n => noL_ok) (fun n v K => by kernel_rfl)
theorem laws_markUint64S_ok : ∀ n v K, laws_markUint64S.u n v K → callM C X0 n 55 (fillA laws_markUint64S.a v) K :=
 call_tell hX (fn := Tryz.f55) (c := bodyOf Tryz.f55) (by kernel_rfl) (by kernel_rfl) (A := laws_markUint64S.a) (u := laws_markUint64S.u) (fun _ _ h => h) (call := D100) (lp := fun n => orL 2 laws_markUint64S.l2.s (laws_markUint64S.l2.u n) noL) (D100_ok hX) (fun n => (orL_ok (laws_markUint64S.l2_ok hX n) noL_ok)) (fun n v K => by kernel_rfl)
def D101 (n : Nat) : CallF := orC 55 laws_markUint64S.a (laws_markUint64S.u n) (D100 n)
theorem D101_ok : ∀ n g a K, D101 n g a K → callM C X0 n g a K := fun n => orC_ok (laws_markUint64S_ok hX n) (D100_ok hX n)
abbrev laws_markInt64S.a : List TS := [.c (.o (.row 2 (.int .i64) 97)), .c (.o (.int .i64))]
def laws_markInt64S.u (n : Nat) (v : VA laws_markInt64S.a) (K : RES → Prop) : Prop := laws_markInt64S.c n v.1 v.2.1 (fun r0 r1 => K ⟨.c (.int .i64 r0), [[.row ⟨2, .int .i64, r1, 97, none⟩]]⟩)
abbrev laws_markInt64S.l2.s : ST := ⟨[(0, .c (.o (.own 0))), (1, .c (.o (.int .i64))), (5, .c (.o (.int .i64)))], [⟨0, 2, .int .i64, 97⟩], [], [0], []⟩
def laws_markInt64S.l2.u (n : Nat) (v : laws_markInt64S.l2.s.V) (K : X → St → Prop) : Prop := laws_markInt64S.l2 n v.1.2.1 v.1.2.2.1 v.2.1.1 (fun y0 y1 => K (.exit 0) ⟨[(1, .c (.int .i64 y0))], [(0, ⟨2, .int .i64, y1, 97, none⟩)], [], [0], []⟩)
theorem laws_markInt64S.l2_ok : ∀ n v K, laws_markInt64S.l2.u n v K → loopM C X0 n 23 2 (laws_markInt64S.l2.s.fill v) K :=
 loop_tell hX (fn := Tryz.f23) (c := bodyOf Tryz.f23) (a := loopOf Tryz.f23 2) (li := liOf (C.fi 23).loops 2) (by kernel_rfl) (by kernel_rfl) (of_decide_eq_true rfl) (by kernel_rfl) (by kernel_rfl) (T := laws_markInt64S.l2.s) (u := laws_markInt64S.l2.u) (fun _ _ h => h) (call := D101) (lp := fun n => noL) (D101_ok hX) (fun n => noL_ok) (fun n v K => by kernel_rfl)
theorem laws_markInt64S_ok : ∀ n v K, laws_markInt64S.u n v K → callM C X0 n 23 (fillA laws_markInt64S.a v) K :=
 call_tell hX (fn := Tryz.f23) (c := bodyOf Tryz.f23) (by kernel_rfl) (by kernel_rfl) (A := laws_markInt64S.a) (u := laws_markInt64S.u) (fun _ _ h => h) (call := D101) (lp := fun n => orL 2 laws_markInt64S.l2.s (laws_markInt64S.l2.u n) noL) (D101_ok hX) (fun n => (orL_ok (laws_markInt64S.l2_ok hX n) noL_ok)) (fun n v K => by kernel_rfl)
def D102 (n : Nat) : CallF := orC 23 laws_markInt64S.a (laws_markInt64S.u n) (D101 n)
theorem D102_ok : ∀ n g a K, D102 n g a K → callM C X0 n g a K := fun n => orC_ok (laws_markInt64S_ok hX n) (D101_ok hX n)
end
end Go.Vsi
end

section
set_option linter.unusedVariables false
namespace Go.Vsi
open Go.Proofs
section
variable {X0 : CallF} (hX : CallF.Mono X0)
include hX
abbrev laws_markTNodeS.a : List TS := [.c (.o (.row 114 (.prod (.int .i64) (.prod (.int .i64) (.prod (.int .i64) (.prod (.int .i64) (.prod (.int .i64) (.prod (.sl 115 (.int .u64)) (.sl 2 (.int .i64)))))))) 98)), .c (.o (.int .i64))]
def laws_markTNodeS.u (n : Nat) (v : VA laws_markTNodeS.a) (K : RES → Prop) : Prop := laws_markTNodeS.c n v.1 v.2.1 (fun r0 r1 => K ⟨.c (.int .i64 r0), [[.row ⟨114, .prod (.int .i64) (.prod (.int .i64) (.prod (.int .i64) (.prod (.int .i64) (.prod (.int .i64) (.prod (.sl 115 (.int .u64)) (.sl 2 (.int .i64))))))), r1, 98, none⟩]]⟩)
abbrev laws_markTNodeS.l2.s : ST := ⟨[(0, .c (.o (.own 0))), (1, .c (.o (.int .i64))), (5, .c (.o (.int .i64)))], [⟨0, 114, .prod (.int .i64) (.prod (.int .i64) (.prod (.int .i64) (.prod (.int .i64) (.prod (.int .i64) (.prod (.sl 115 (.int .u64)) (.sl 2 (.int .i64))))))), 98⟩], [], [0], []⟩
def laws_markTNodeS.l2.u (n : Nat) (v : laws_markTNodeS.l2.s.V) (K : X → St → Prop) : Prop := laws_markTNodeS.l2 n v.1.2.1 v.1.2.2.1 v.2.1.1 (fun y0 y1 => K (.exit 0) ⟨[(1, .c (.int .i64 y0))], [(0, ⟨114, .prod (.int .i64) (.prod (.int .i64) (.prod (.int .i64) (.prod (.int .i64) (.prod (.int .i64) (.prod (.sl 115 (.int .u64)) (.sl 2 (.int .i64))))))), y1, 98, none⟩)], [], [0], []⟩)
theorem laws_markTNodeS.l2_ok : ∀ n v K, laws_markTNodeS.l2.u n v K → loopM C X0 n 54 2 (laws_markTNodeS.l2.s.fill v) K :=
 loop_tell hX (fn := Tryz.f54) (c := bodyOf Tryz.f54) (a := loopOf Tryz.f54 2) (li := liOf (C.fi 54).loops 2) (by kernel_rfl) (by kernel_rfl) (of_decide_eq_true rfl) (by kernel_rfl) (by kernel_rfl) (T := laws_markTNodeS.l2.s) (u := laws_markTNodeS.l2.u) (fun _ _ h => h) (call := D102) (lp := fun n => noL) (D102_ok hX) (fun n => noL_ok) (fun n v K => by kernel_rfl)
theorem laws_markTNodeS_ok : ∀ n v K, laws_markTNodeS.u n v K → callM C X0 n 54 (fillA laws_markTNodeS.a v) K :=
 call_tell hX (fn := Tryz.f54) (c := bodyOf Tryz.f54) (by kernel_rfl) (by kernel_rfl) (A := laws_markTNodeS.a) (u := laws_markTNodeS.u) (fun _ _ h => h) (call := D102) (lp := fun n => orL 2 laws_markTNodeS.l2.s (laws_markTNodeS.l2.u n) noL) (D102_ok hX) (fun n => (orL_ok (laws_markTNodeS.l2_ok hX n) noL_ok)) (fun n v K => by kernel_rfl)
def D103 (n : Nat) : CallF := orC 54 laws_markTNodeS.a (laws_markTNodeS.u n) (D102 n)
theorem D103_ok : ∀ n g a K, D103 n g a K → callM C X0 n g a K := fun n => orC_ok (laws_markTNodeS_ok hX n) (D102_ok hX n)
abbrev laws_markLiteralS.a : List TS := [.c (.o (.row 69 (.prod (.int .i64) (.prod .bool (.prod (.sl 114 (.prod (.int .i64) (.prod (.int .i64) (.prod (.int .i64) (.prod (.int .i64) (.prod (.int .i64) (.prod (.sl 115 (.int .u64)) (.sl 2 (.int .i64))))))))) (.sl 114 (.prod (.int .i64) (.prod (.int .i64) (.prod (.int .i64) (.prod (.int .i64) (.prod (.int .i64) (.prod (.sl 115 (.int .u64)) (.sl 2 (.int .i64)))))))))))) 99)), .c (.o (.int .i64))]
def laws_markLiteralS.u (n : Nat) (v : VA laws_markLiteralS.a) (K : RES → Prop) : Prop := laws_markLiteralS.c n v.1 v.2.1 (fun r0 r1 => K ⟨.c (.int .i64 r0), [[.row ⟨69, .prod (.int .i64) (.prod .bool (.prod (.sl 114 (.prod (.int .i64) (.prod (.int .i64) (.prod (.int .i64) (.prod (.int .i64) (.prod (.int .i64) (.prod (.sl 115 (.int .u64)) (.sl 2 (.int .i64))))))))) (.sl 114 (.prod (.int .i64) (.prod (.int .i64) (.prod (.int .i64) (.prod (.int .i64) (.prod (.int .i64) (.prod (.sl 115 (.int .u64)) (.sl 2 (.int .i64))))))))))), r1, 99, none⟩]]⟩)
abbrev laws_markLiteralS.l2.s : ST := ⟨[(0, .c (.o (.own 0))), (1, .c (.o (.int .i64))), (5, .c (.o (.int .i64)))], [⟨0, 69, .prod (.int .i64) (.prod .bool (.prod (.sl 114 (.prod (.int .i64) (.prod (.int .i64) (.prod (.int .i64) (.prod (.int .i64) (.prod (.int .i64) (.prod (.sl 115 (.int .u64)) (.sl 2 (.int .i64))))))))) (.sl 114 (.prod (.int .i64) (.prod (.int .i64) (.prod (.int .i64) (.prod (.int .i64) (.prod (.int .i64) (.prod (.sl 115 (.int .u64)) (.sl 2 (.int .i64))))))))))), 99⟩], [], [0], []⟩
def laws_markLiteralS.l2.u (n : Nat) (v : laws_markLiteralS.l2.s.V) (K : X → St → Prop) : Prop := laws_markLiteralS.l2 n v.1.2.1 v.1.2.2.1 v.2.1.1 (fun y0 y1 => K (.exit 0) ⟨[(1, .c (.int .i64 y0))], [(0, ⟨69, .prod (.int .i64) (.prod .bool (.prod (.sl 114 (.prod (.int .i64) (.prod (.int .i64) (.prod (.int .i64) (.prod (.int .i64) (.prod (.int .i64) (.prod (.sl 115 (.int .u64)) (.sl 2 (.int .i64))))))))) (.sl 114 (.prod (.int .i64) (.prod (.int .i64) (.prod (.int .i64) (.prod (.int .i64) (.prod (.int .i64) (.prod (.sl 115 (.int .u64)) (.sl 2 (.int .i64))))))))))), y1, 99, none⟩)], [], [0], []⟩)
theorem laws_markLiteralS.l2_ok : ∀ n v K, laws_markLiteralS.l2.u n v K → loopM C X0 n 21 2 (laws_markLiteralS.l2.s.fill v) K :=
 loop_tell hX (fn := Tryz.f21) (c := bodyOf Tryz.f21) (a := loopOf Tryz.f21 2) (li := liOf (C.fi 21).loops 2) (by kernel_rfl) (by kernel_rfl) (of_decide_eq_true rfl) (by kernel_rfl) (by kernel_rfl) (T := laws_markLiteralS.l2.s) (u := laws_markLiteralS.l2.u) (fun _ _ h => h) (call := D103) (lp := fun n => noL) (D103_ok hX) (fun n => noL_ok) (fun n v K => by kernel_rfl)
theorem laws_markLiteralS_ok : ∀ n v K, laws_markLiteralS.u n v K → callM C X0 n 21 (fillA laws_markLiteralS.a v) K :=
 call_tell hX (fn := Tryz.f21) (c := bodyOf Tryz.f21) (by kernel_rfl) (by kernel_rfl) (A := laws_markLiteralS.a) (u := laws_markLiteralS.u) (fun _ _ h => h) (call := D103) (lp := fun n => orL 2 laws_markLiteralS.l2.s (laws_markLiteralS.l2.u n) noL) (D103_ok hX) (fun n => (orL_ok (laws_markLiteralS.l2_ok hX n) noL_ok)) (fun n v K => by kernel_rfl)
def D104 (n : Nat) : CallF := orC 21 laws_markLiteralS.a (laws_markLiteralS.u n) (D103 n)
theorem D104_ok : ∀ n g a K, D104 n g a K → callM C X0 n g a K := fun n => orC_ok (laws_markLiteralS_ok hX n) (D103_ok hX n)
abbrev laws_markUint64S_1.a : List TS := [.c (.o (.row 115 (.int .u64) 98)), .c (.o (.int .i64))]
def laws_markUint64S_1.u (n : Nat) (v : VA laws_markUint64S_1.a) (K : RES → Prop) : Prop := laws_markUint64S_1.c n v.1 v.2.1 (fun r0 r1 => K ⟨.c (.int .i64 r0), [[.row ⟨115, .int .u64, r1, 98, none⟩]]⟩)
abbrev laws_markUint64S_1.l2.s : ST := ⟨[(0, .c (.o (.own 0))), (1, .c (.o (.int .i64))), (5, .c (.o (.int .i64)))], [⟨0, 115, .int .u64, 98⟩], [], [0], []⟩
def laws_markUint64S_1.l2.u (n : Nat) (v : laws_markUint64S_1.l2.s.V) (K : X → St → Prop) : Prop := laws_markUint64S_1.l2 n v.1.2.1 v.1.2.2.1 v.2.1.1 (fun y0 y1 => K (.exit 0) ⟨[(1, .c (.int .i64 y0))], [(0, ⟨115, .int .u64, y1, 98, none⟩)], [], [0], []⟩)
theorem laws_markUint64S_1.l2_ok : ∀ n v K, laws_markUint64S_1.l2.u n v K → loopM C X0 n 55 2 (laws_markUint64S_1.l2.s.fill v) K :=
 loop_tell hX (fn := Tryz.f55) (c := bodyOf Tryz.f55) (a := loopOf Tryz.f55 2) (li := liOf (C.fi 55).loops 2) (by kernel_rfl) (by kernel_rfl) (of_decide_eq_true rfl) (by kernel_rfl) (by kernel_rfl) (T := laws_markUint64S_1.l2.s) (u := laws_markUint64S_1.l2.u) (fun _ _ h => h) (call := D104) (lp := fun n => noL) (D104_ok hX) (fun n => noL_ok) (fun n v K => by kernel_rfl)
theorem laws_markUint64S_1_ok : ∀ n v K, laws_markUint64S_1.u n v K → callM C X0 n 55 (fillA laws_markUint64S_1.a v) K :=
 call_tell hX (fn := Tryz.f55) (c := bodyOf Tryz.f55) (by kernel_rfl) (by kernel_rfl) (A := laws_markUint64S_1.a) (u := laws_markUint64S_1.u) (fun _ _ h => h) (call := D104) (lp := fun n => orL 2 laws_markUint64S_1.l2.s (laws_markUint64S_1.l2.u n) noL) (D104_ok hX) (fun n => (orL_ok (laws_markUint64S_1.l2_ok hX n) noL_ok)) (fun n v K => by kernel_rfl)
def D105 (n : Nat) : CallF := orC 55 laws_markUint64S_1.a (laws_markUint64S_1.u n) (D104 n)
theorem D105_ok : ∀ n g a K, D105 n g a K → callM C X0 n g a K := fun n => orC_ok (laws_markUint64S_1_ok hX n) (D104_ok hX n)
abbrev laws_markBitsS.a : List TS := [.c (.o (.row 83 (.prod (.int .i64) (.sl 115 (.int .u64))) 99)), .c (.o (.int .i64))]
def laws_markBitsS.u (n : Nat) (v : VA laws_markBitsS.a) (K : RES → Prop) : Prop := laws_markBitsS.c n v.1 v.2.1 (fun r0 r1 => K ⟨.c (.int .i64 r0), [[.row ⟨83, .prod (.int .i64) (.sl 115 (.int .u64)), r1, 99, none⟩]]⟩)
abbrev laws_markBitsS.l2.s : ST := ⟨[(0, .c (.o (.own 0))), (1, .c (.o (.int .i64))), (5, .c (.o (.int .i64)))], [⟨0, 83, .prod (.int .i64) (.sl 115 (.int .u64)), 99⟩], [], [0], []⟩
def laws_markBitsS.l2.u (n : Nat) (v : laws_markBitsS.l2.s.V) (K : X → St → Prop) : Prop := laws_markBitsS.l2 n v.1.2.1 v.1.2.2.1 v.2.1.1 (fun y0 y1 => K (.exit 0) ⟨[(1, .c (.int .i64 y0))], [(0, ⟨83, .prod (.int .i64) (.sl 115 (.int .u64)), y1, 99, none⟩)], [], [0], []⟩)
theorem laws_markBitsS.l2_ok : ∀ n v K, laws_markBitsS.l2.u n v K → loopM C X0 n 22 2 (laws_markBitsS.l2.s.fill v) K :=
 loop_tell hX (fn := Tryz.f22) (c := bodyOf Tryz.f22) (a := loopOf Tryz.f22 2) (li := liOf (C.fi 22).loops 2) (by kernel_rfl) (by kernel_rfl) (of_decide_eq_true rfl) (by kernel_rfl) (by kernel_rfl) (T := laws_markBitsS.l2.s) (u := laws_markBitsS.l2.u) (fun _ _ h => h) (call := D105) (lp := fun n => noL) (D105_ok hX) (fun n => noL_ok) (fun n v K => by kernel_rfl)
theorem laws_markBitsS_ok : ∀ n v K, laws_markBitsS.u n v K → callM C X0 n 22 (fillA laws_markBitsS.a v) K :=
 call_tell hX (fn := Tryz.f22) (c := bodyOf Tryz.f22) (by kernel_rfl) (by kernel_rfl) (A := laws_markBitsS.a) (u := laws_markBitsS.u) (fun _ _ h => h) (call := D105) (lp := fun n => orL 2 laws_markBitsS.l2.s (laws_markBitsS.l2.u n) noL) (D105_ok hX) (fun n => (orL_ok (laws_markBitsS.l2_ok hX n) noL_ok)) (fun n v K => by kernel_rfl)
def D106 (n : Nat) : CallF := orC 22 laws_markBitsS.a (laws_markBitsS.u n) (D105 n)
theorem D106_ok : ∀ n g a K, D106 n g a K → callM C X0 n g a K := fun n => orC_ok (laws_markBitsS_ok hX n) (D105_ok hX n)
abbrev laws_markInt64S_1.a : List TS := [.c (.o (.row 2 (.int .i64) 99)), .c (.o (.int .i64))]
def laws_markInt64S_1.u (n : Nat) (v : VA laws_markInt64S_1.a) (K : RES → Prop) : Prop := laws_markInt64S_1.c n v.1 v.2.1 (fun r0 r1 => K ⟨.c (.int .i64 r0), [[.row ⟨2, .int .i64, r1, 99, none⟩]]⟩)
abbrev laws_markInt64S_1.l2.s : ST := ⟨[(0, .c (.o (.own 0))), (1, .c (.o (.int .i64))), (5, .c (.o (.int .i64)))], [⟨0, 2, .int .i64, 99⟩], [], [0], []⟩
def laws_markInt64S_1.l2.u (n : Nat) (v : laws_markInt64S_1.l2.s.V) (K : X → St → Prop) : Prop := laws_markInt64S_1.l2 n v.1.2.1 v.1.2.2.1 v.2.1.1 (fun y0 y1 => K (.exit 0) ⟨[(1, .c (.int .i64 y0))], [(0, ⟨2, .int .i64, y1, 99, none⟩)], [], [0], []⟩)
theorem laws_markInt64S_1.l2_ok : ∀ n v K, laws_markInt64S_1.l2.u n v K → loopM C X0 n 23 2 (laws_markInt64S_1.l2.s.fill v) K :=
 loop_tell hX (fn := Tryz.f23) (c := bodyOf Tryz.f23) (a := loopOf Tryz.f23 2) (li := liOf (C.fi 23).loops 2) (by kernel_rfl) (by kernel_rfl) (of_decide_eq_true rfl) (by kernel_rfl) (by kernel_rfl) (T := laws_markInt64S_1.l2.s) (u := laws_markInt64S_1.l2.u) (fun _ _ h => h) (call := D106) (lp := fun n => noL) (D106_ok hX) (fun n => noL_ok) (fun n v K => by kernel_rfl)
theorem laws_markInt64S_1_ok : ∀ n v K, laws_markInt64S_1.u n v K → callM C X0 n 23 (fillA laws_markInt64S_1.a v) K :=
 call_tell hX (fn := Tryz.f23) (c := bodyOf Tryz.f23) (by kernel_rfl) (by kernel_rfl) (A := laws_markInt64S_1.a) (u := laws_markInt64S_1.u) (fun _ _ h => h) (call := D106) (lp := fun n => orL 2 laws_markInt64S_1.l2.s (laws_markInt64S_1.l2.u n) noL) (D106_ok hX) (fun n => (orL_ok (laws_markInt64S_1.l2_ok hX n) noL_ok)) (fun n v K => by kernel_rfl)
def D107 (n : Nat) : CallF := orC 23 laws_markInt64S_1.a (laws_markInt64S_1.u n) (D106 n)
theorem D107_ok : ∀ n g a K, D107 n g a K → callM C X0 n g a K := fun n => orC_ok (laws_markInt64S_1_ok hX n) (D106_ok hX n)
abbrev laws_heldInt64S.a : List TS := [.c (.o (.dat 2 (.int .i64))), .c (.o (.int .i64))]
def laws_heldInt64S.u (n : Nat) (v : VA laws_heldInt64S.a) (K : RES → Prop) : Prop := laws_heldInt64S.c n v.1 v.2.1 (fun r0 => K ⟨.c (.int .i64 r0), []⟩)
abbrev laws_heldInt64S.l2.s : ST := ⟨[(0, .c (.o (.dat 2 (.int .i64)))), (1, .c (.o (.int .i64))), (5, .c (.o (.int .i64)))], [], [], [], []⟩
def laws_heldInt64S.l2.u (n : Nat) (v : laws_heldInt64S.l2.s.V) (K : X → St → Prop) : Prop := laws_heldInt64S.l2 n v.1.1 v.1.2.1 v.1.2.2.1 (fun y0 => K (.exit 0) ⟨[(1, .c (.int .i64 y0))], [], [], [], []⟩) (fun y0 => K .ret ⟨[(4, .c (.int .i64 y0))], [], [], [], []⟩)
theorem laws_heldInt64S.l2_ok : ∀ n v K, laws_heldInt64S.l2.u n v K → loopM C X0 n 24 2 (laws_heldInt64S.l2.s.fill v) K :=
 loop_tell hX (fn := Tryz.f24) (c := bodyOf Tryz.f24) (a := loopOf Tryz.f24 2) (li := liOf (C.fi 24).loops 2) (by kernel_rfl) (by kernel_rfl) (of_decide_eq_true rfl) (by kernel_rfl) (by kernel_rfl) (T := laws_heldInt64S.l2.s) (u := laws_heldInt64S.l2.u) (fun _ _ h => h) (call := D107) (lp := fun n => noL) (D107_ok hX) (fun n => noL_ok) (fun n v K => by kernel_rfl)
theorem laws_heldInt64S_ok : ∀ n v K, laws_heldInt64S.u n v K → callM C X0 n 24 (fillA laws_heldInt64S.a v) K :=
 call_tell hX (fn := Tryz.f24) (c := bodyOf Tryz.f24) (by kernel_rfl) (by kernel_rfl) (A := laws_heldInt64S.a) (u := laws_heldInt64S.u) (fun _ _ h => h) (call := D107) (lp := fun n => orL 2 laws_heldInt64S.l2.s (laws_heldInt64S.l2.u n) noL) (D107_ok hX) (fun n => (orL_ok (laws_heldInt64S.l2_ok hX n) noL_ok)) (fun n v K => by kernel_rfl)
def D108 (n : Nat) : CallF := orC 24 laws_heldInt64S.a (laws_heldInt64S.u n) (D107 n)
theorem D108_ok : ∀ n g a K, D108 n g a K → callM C X0 n g a K := fun n => orC_ok (laws_heldInt64S_ok hX n) (D107_ok hX n)
abbrev laws_FnExactWeaken.a : List TS := [.c (.o (.dat 53 (.prod .str (.int .i64)))), .c (.o (.dat 59 (.prod (.int .i64) (.prod .bool (.prod (.sl 132 (.prod (.int .i64) (.prod (.int .i64) (.prod (.int .i64) (.prod (.int .i64) (.prod (.int .i64) (.prod (.sl 115 (.int .u64)) (.sl 2 (.int .i64))))))))) (.sl 132 (.prod (.int .i64) (.prod (.int .i64) (.prod (.int .i64) (.prod (.int .i64) (.prod (.int .i64) (.prod (.sl 115 (.int .u64)) (.sl 2 (.int .i64)))))))))))))), .c (.o (.dat 79 (.prod (.int .i64) (.sl 115 (.int .u64)))))]
def laws_FnExactWeaken.u (n : Nat) (v : VA laws_FnExactWeaken.a) (K : RES → Prop) : Prop := laws_FnExactWeaken.c n v.1 v.2.1 v.2.2.1 (fun r0 => K ⟨.c (.bool r0), []⟩)
abbrev laws_FnExactWeaken.q29.s : ST := ⟨[(0, .c (.o (.dat 53 (.prod .str (.int .i64))))), (1, .c (.o (.dat 59 (.prod (.int .i64) (.prod .bool (.prod (.sl 132 (.prod (.int .i64) (.prod (.int .i64) (.prod (.int .i64) (.prod (.int .i64) (.prod (.int .i64) (.prod (.sl 115 (.int .u64)) (.sl 2 (.int .i64))))))))) (.sl 132 (.prod (.int .i64) (.prod (.int .i64) (.prod (.int .i64) (.prod (.int .i64) (.prod (.int .i64) (.prod (.sl 115 (.int .u64)) (.sl 2 (.int .i64))))))))))))))), (2, .c (.o (.dat 79 (.prod (.int .i64) (.sl 115 (.int .u64)))))), (8, .c (.o (.own 1344))), (9, .c (.o .bool)), (13, .c (.o (.own 1760))), (103, .c (.o .bool))], [⟨1344, 2, .int .i64, 99⟩, ⟨1760, 2, .int .i64, 99⟩], [], [], []⟩
def laws_FnExactWeaken.q29.u (n : Nat) (v : laws_FnExactWeaken.q29.s.V) (K : X → St → Prop) : Prop := laws_FnExactWeaken.q29 n v.1.1 v.1.2.1 v.1.2.2.1 v.1.2.2.2.2.1 v.1.2.2.2.2.2.2.1 v.2.1.1 v.2.1.2.1 (fun y0 => K .ret ⟨[(6, .c (.bool y0))], [], [], [], []⟩) (fun y0 y1 y2 y3 y4 y5 => K .normal ⟨[(0, .c (.dat 53 (.prod .str (.int .i64)) y0)), (1, .c (.dat 59 (.prod (.int .i64) (.prod .bool (.prod (.sl 132 (.prod (.int .i64) (.prod (.int .i64) (.prod (.int .i64) (.prod (.int .i64) (.prod (.int .i64) (.prod (.sl 115 (.int .u64)) (.sl 2 (.int .i64))))))))) (.sl 132 (.prod (.int .i64) (.prod (.int .i64) (.prod (.int .i64) (.prod (.int .i64) (.prod (.int .i64) (.prod (.sl 115 (.int .u64)) (.sl 2 (.int .i64)))))))))))) y1)), (2, .c (.dat 79 (.prod (.int .i64) (.sl 115 (.int .u64))) y2)), (8, .c (.own 1344)), (9, .c (.bool y3)), (13, .c (.own 1760))], [(1344, ⟨2, .int .i64, y4, 99, none⟩), (1760, ⟨2, .int .i64, y5, 99, none⟩)], [], [], []⟩)
abbrev laws_FnExactWeaken.q18.s : ST := ⟨[(0, .c (.o (.dat 53 (.prod .str (.int .i64))))), (1, .c (.o (.dat 59 (.prod (.int .i64) (.prod .bool (.prod (.sl 132 (.prod (.int .i64) (.prod (.int .i64) (.prod (.int .i64) (.prod (.int .i64) (.prod (.int .i64) (.prod (.sl 115 (.int .u64)) (.sl 2 (.int .i64))))))))) (.sl 132 (.prod (.int .i64) (.prod (.int .i64) (.prod (.int .i64) (.prod (.int .i64) (.prod (.int .i64) (.prod (.sl 115 (.int .u64)) (.sl 2 (.int .i64))))))))))))))), (2, .c (.o (.dat 79 (.prod (.int .i64) (.sl 115 (.int .u64)))))), (8, .c (.o (.own 1344))), (9, .c (.o .bool)), (10, .c (.o (.own 1472))), (11, .c (.o (.own 1536))), (12, .c (.o (.own 1600))), (13, .c (.o (.own 1760))), (14, .c (.o .bool))], [⟨1344, 2, .int .i64, 99⟩, ⟨1472, 63, .prod .str (.int .i64), 99⟩, ⟨1536, 69, .prod (.int .i64) (.prod .bool (.prod (.sl 114 (.prod (.int .i64) (.prod (.int .i64) (.prod (.int .i64) (.prod (.int .i64) (.prod (.int .i64) (.prod (.sl 115 (.int .u64)) (.sl 2 (.int .i64))))))))) (.sl 114 (.prod (.int .i64) (.prod (.int .i64) (.prod (.int .i64) (.prod (.int .i64) (.prod (.int .i64) (.prod (.sl 115 (.int .u64)) (.sl 2 (.int .i64))))))))))), 99⟩, ⟨1600, 83, .prod (.int .i64) (.sl 115 (.int .u64)), 99⟩, ⟨1760, 2, .int .i64, 99⟩], [], [], []⟩
def laws_FnExactWeaken.q18.u (n : Nat) (v : laws_FnExactWeaken.q18.s.V) (K : X → St → Prop) : Prop := laws_FnExactWeaken.q18 n v.1.1 v.1.2.1 v.1.2.2.1 v.1.2.2.2.2.1 v.1.2.2.2.2.2.2.2.2.2.1 v.2.1.1 v.2.1.2.1 v.2.1.2.2.1 v.2.1.2.2.2.1 v.2.1.2.2.2.2.1 (fun y0 => K .ret ⟨[(6, .c (.bool y0))], [], [], [], []⟩)
theorem laws_FnExactWeaken.q29_ok : ∀ n v K, laws_FnExactWeaken.q29.u n v K → loopM C X0 n 4 1000029 (laws_FnExactWeaken.q29.s.fill v) K :=
 cut_tell hX (fn := Tryz.f4) (c := bodyOf Tryz.f4) (a := cutOf Tryz.f4 29) (li := liOf (C.fi 4).loops 1000029) (by kernel_rfl) (by kernel_rfl) (of_decide_eq_true rfl) (by kernel_rfl) (by kernel_rfl) (T := laws_FnExactWeaken.q29.s) (u := laws_FnExactWeaken.q29.u) (fun _ _ h => h) (call := D108) (lp := fun n => noL) (D108_ok hX) (fun n => noL_ok) (fun n v K => by kernel_rfl)
theorem laws_FnExactWeaken.q18_ok : ∀ n v K, laws_FnExactWeaken.q18.u n v K → loopM C X0 n 4 1000018 (laws_FnExactWeaken.q18.s.fill v) K :=
 cut_tell hX (fn := Tryz.f4) (c := bodyOf Tryz.f4) (a := cutOf Tryz.f4 18) (li := liOf (C.fi 4).loops 1000018) (by kernel_rfl) (by kernel_rfl) (of_decide_eq_true rfl) (by kernel_rfl) (by kernel_rfl) (T := laws_FnExactWeaken.q18.s) (u := laws_FnExactWeaken.q18.u) (fun _ _ h => h) (call := D108) (lp := fun n => orL 1000029 laws_FnExactWeaken.q29.s (laws_FnExactWeaken.q29.u n) noL) (D108_ok hX) (fun n => (orL_ok (laws_FnExactWeaken.q29_ok hX n) noL_ok)) (fun n v K => by kernel_rfl)
theorem laws_FnExactWeaken_ok : ∀ n v K, laws_FnExactWeaken.u n v K → callM C X0 n 4 (fillA laws_FnExactWeaken.a v) K :=
 call_tell hX (fn := Tryz.f4) (c := bodyOf Tryz.f4) (by kernel_rfl) (by kernel_rfl) (A := laws_FnExactWeaken.a) (u := laws_FnExactWeaken.u) (fun _ _ h => h) (call := D108) (lp := fun n => orL 1000018 laws_FnExactWeaken.q18.s (laws_FnExactWeaken.q18.u n) noL) (D108_ok hX) (fun n => (orL_ok (laws_FnExactWeaken.q18_ok hX n) noL_ok)) (fun n v K => by kernel_rfl)
def D109 (n : Nat) : CallF := orC 4 laws_FnExactWeaken.a (laws_FnExactWeaken.u n) (D108 n)
theorem D109_ok : ∀ n g a K, D109 n g a K → callM C X0 n g a K := fun n => orC_ok (laws_FnExactWeaken_ok hX n) (D108_ok hX n)
end
end Go.Vsi
end
