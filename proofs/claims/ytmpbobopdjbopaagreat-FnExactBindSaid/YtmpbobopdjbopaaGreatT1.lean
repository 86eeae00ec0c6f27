/- Each told function is what the machine comes to. No statement is proved here. -/
import Derived.Test.YtmpbobopdjbopaaGreatM3
import Derived.Test.YtmpbobopdjbopaaGreatA1
import Derived.Test.YtmpbobopdjbopaaGreatProg
import Derived.KernelRfl

section
set_option linter.unusedVariables false
namespace Go.Vsi
open Go.Proofs
def tis : List (Nat × TI) := [
(1, ⟨false, 1, 8, [.undef], none, none, []⟩),
(2, ⟨false, 1, 8, [.int .i64 0], some (.int .i64), none, []⟩),
(3, ⟨false, 1, 8, [.int .i64 0], some (.int .i64), none, []⟩),
(4, ⟨false, 1, 1, [.bool false], some (.bool), none, []⟩),
(5, ⟨false, 1, 1, [.int .u8 0], some (.int .u8), none, []⟩),
(6, ⟨false, 1, 1, [.int .u8 0], some (.int .u8), none, []⟩),
(7, ⟨true, 4, 24, [.int .i64 0, .int .i64 0, .bool false, .int .u8 0], some (.prod (.int .i64) (.prod (.int .i64) (.prod .bool (.int .u8)))), none, [(0, 2), (1, 3), (2, 4), (3, 6)]⟩),
(8, ⟨true, 4, 24, [.int .i64 0, .int .i64 0, .bool false, .int .u8 0], some (.prod (.int .i64) (.prod (.int .i64) (.prod .bool (.int .u8)))), none, [(0, 2), (1, 3), (2, 4), (3, 6)]⟩),
(9, ⟨false, 1, 16, [.str []], some (.str), none, []⟩),
(10, ⟨false, 1, 16, [.str []], some (.str), none, []⟩),
(11, ⟨false, 1, 16, [.str []], some (.str), none, []⟩),
(12, ⟨false, 1, 8, [.int .u64 0], some (.int .u64), none, []⟩),
(13, ⟨true, 2, 24, [.str [], .int .u64 0], some (.prod .str (.int .u64)), none, [(0, 9), (1, 12)]⟩),
(14, ⟨true, 2, 24, [.str [], .int .u64 0], some (.prod .str (.int .u64)), none, [(0, 9), (1, 12)]⟩),
(15, ⟨false, 1, 8, [.undef], none, none, []⟩),
(16, ⟨false, 1, 8, [.undef], none, none, []⟩),
(17, ⟨false, 1, 8, [.undef], none, none, []⟩),
(18, ⟨true, 1, 8, [.undef], none, none, [(0, 17)]⟩),
(19, ⟨true, 1, 8, [.undef], none, none, [(0, 17)]⟩),
(20, ⟨false, 1, 16, [.undef], none, none, []⟩),
(21, ⟨false, 1, 4, [.int .i32 0], some (.int .i32), none, []⟩),
(22, ⟨false, 1, 24, [.emp 74 (.prod .str (.int .i64))], some (.sl 74 (.prod .str (.int .i64))), some 74, []⟩),
(23, ⟨false, 1, 24, [.emp 80 (.prod (.int .i64) (.sl 192 (.prod (.int .i64) (.prod (.int .i64) (.prod (.int .i64) (.prod (.int .i64) (.prod (.int .i64) (.prod (.sl 150 (.int .u64)) (.sl 2 (.int .i64))))))))))], some (.sl 80 (.prod (.int .i64) (.sl 192 (.prod (.int .i64) (.prod (.int .i64) (.prod (.int .i64) (.prod (.int .i64) (.prod (.int .i64) (.prod (.sl 150 (.int .u64)) (.sl 2 (.int .i64))))))))))), some 80, []⟩),
(24, ⟨false, 1, 24, [.emp 84 (.prod (.int .i64) (.sl 150 (.int .u64)))], some (.sl 84 (.prod (.int .i64) (.sl 150 (.int .u64)))), some 84, []⟩),
(25, ⟨false, 1, 8, [.undef], none, none, []⟩),
(26, ⟨false, 1, 8, [.undef], none, none, []⟩),
(27, ⟨false, 1, 8, [.undef], none, none, []⟩),
(28, ⟨false, 1, 24, [.emp 92 (.prod (.int .i64) (.sl 150 (.int .u64)))], some (.sl 92 (.prod (.int .i64) (.sl 150 (.int .u64)))), some 92, []⟩),
(30, ⟨false, 1, 8, [.undef], none, none, []⟩),
(31, ⟨false, 1, 24, [.emp 95 (.prod .str (.int .i64))], some (.sl 95 (.prod .str (.int .i64))), some 95, []⟩),
(32, ⟨false, 1, 8, [.undef], none, none, []⟩),
(33, ⟨false, 1, 24, [.emp 91 (.prod (.int .i64) (.sl 145 (.prod (.int .i64) (.prod (.int .i64) (.prod (.int .i64) (.prod (.int .i64) (.prod (.int .i64) (.prod (.sl 150 (.int .u64)) (.sl 2 (.int .i64))))))))))], some (.sl 91 (.prod (.int .i64) (.sl 145 (.prod (.int .i64) (.prod (.int .i64) (.prod (.int .i64) (.prod (.int .i64) (.prod (.int .i64) (.prod (.sl 150 (.int .u64)) (.sl 2 (.int .i64))))))))))), some 91, []⟩),
(34, ⟨false, 1, 8, [.undef], none, none, []⟩),
(35, ⟨false, 1, 8, [.undef], none, none, []⟩),
(36, ⟨false, 1, 8, [.undef], none, none, []⟩),
(37, ⟨false, 1, 8, [.undef], none, none, []⟩),
(38, ⟨false, 1, 8, [.undef], none, none, []⟩),
(39, ⟨false, 1, 8, [.undef], none, none, []⟩),
(40, ⟨false, 1, 8, [.undef], none, none, []⟩),
(41, ⟨false, 1, 8, [.undef], none, none, []⟩),
(42, ⟨false, 1, 8, [.undef], none, none, []⟩),
(43, ⟨false, 1, 24, [.emp 109 (.prod (.int .i64) (.prod .bool (.prod (.sl 192 (.prod (.int .i64) (.prod (.int .i64) (.prod (.int .i64) (.prod (.int .i64) (.prod (.int .i64) (.prod (.sl 150 (.int .u64)) (.sl 2 (.int .i64))))))))) (.sl 192 (.prod (.int .i64) (.prod (.int .i64) (.prod (.int .i64) (.prod (.int .i64) (.prod (.int .i64) (.prod (.sl 150 (.int .u64)) (.sl 2 (.int .i64))))))))))))], some (.sl 109 (.prod (.int .i64) (.prod .bool (.prod (.sl 192 (.prod (.int .i64) (.prod (.int .i64) (.prod (.int .i64) (.prod (.int .i64) (.prod (.int .i64) (.prod (.sl 150 (.int .u64)) (.sl 2 (.int .i64))))))))) (.sl 192 (.prod (.int .i64) (.prod (.int .i64) (.prod (.int .i64) (.prod (.int .i64) (.prod (.int .i64) (.prod (.sl 150 (.int .u64)) (.sl 2 (.int .i64))))))))))))), some 109, []⟩),
(44, ⟨false, 1, 8, [.undef], none, none, []⟩),
(45, ⟨false, 1, 24, [.emp 2 (.int .i64)], some (.sl 2 (.int .i64)), some 2, []⟩),
(47, ⟨false, 1, 8, [.undef], none, none, []⟩),
(48, ⟨false, 1, 24, [.emp 114 (.prod (.int .i64) (.prod .bool (.prod (.sl 145 (.prod (.int .i64) (.prod (.int .i64) (.prod (.int .i64) (.prod (.int .i64) (.prod (.int .i64) (.prod (.sl 150 (.int .u64)) (.sl 2 (.int .i64))))))))) (.sl 145 (.prod (.int .i64) (.prod (.int .i64) (.prod (.int .i64) (.prod (.int .i64) (.prod (.int .i64) (.prod (.sl 150 (.int .u64)) (.sl 2 (.int .i64))))))))))))], some (.sl 114 (.prod (.int .i64) (.prod .bool (.prod (.sl 145 (.prod (.int .i64) (.prod (.int .i64) (.prod (.int .i64) (.prod (.int .i64) (.prod (.int .i64) (.prod (.sl 150 (.int .u64)) (.sl 2 (.int .i64))))))))) (.sl 145 (.prod (.int .i64) (.prod (.int .i64) (.prod (.int .i64) (.prod (.int .i64) (.prod (.int .i64) (.prod (.sl 150 (.int .u64)) (.sl 2 (.int .i64))))))))))))), some 114, []⟩),
(49, ⟨false, 1, 8, [.undef], none, none, []⟩),
(50, ⟨false, 1, 8, [.undef], none, none, []⟩),
(51, ⟨false, 1, 8, [.undef], none, none, []⟩),
(52, ⟨false, 1, 8, [.undef], none, none, []⟩),
(53, ⟨false, 1, 8, [.undef], none, none, []⟩),
(54, ⟨false, 1, 8, [.undef], none, none, []⟩),
(55, ⟨false, 1, 24, [.emp 160 (.prod (.int .i64) (.sl 109 (.prod (.int .i64) (.prod .bool (.prod (.sl 192 (.prod (.int .i64) (.prod (.int .i64) (.prod (.int .i64) (.prod (.int .i64) (.prod (.int .i64) (.prod (.sl 150 (.int .u64)) (.sl 2 (.int .i64))))))))) (.sl 192 (.prod (.int .i64) (.prod (.int .i64) (.prod (.int .i64) (.prod (.int .i64) (.prod (.int .i64) (.prod (.sl 150 (.int .u64)) (.sl 2 (.int .i64))))))))))))))], some (.sl 160 (.prod (.int .i64) (.sl 109 (.prod (.int .i64) (.prod .bool (.prod (.sl 192 (.prod (.int .i64) (.prod (.int .i64) (.prod (.int .i64) (.prod (.int .i64) (.prod (.int .i64) (.prod (.sl 150 (.int .u64)) (.sl 2 (.int .i64))))))))) (.sl 192 (.prod (.int .i64) (.prod (.int .i64) (.prod (.int .i64) (.prod (.int .i64) (.prod (.int .i64) (.prod (.sl 150 (.int .u64)) (.sl 2 (.int .i64))))))))))))))), some 160, []⟩),
(56, ⟨true, 3, 56, [.emp 74 (.prod .str (.int .i64)), .emp 160 (.prod (.int .i64) (.sl 109 (.prod (.int .i64) (.prod .bool (.prod (.sl 192 (.prod (.int .i64) (.prod (.int .i64) (.prod (.int .i64) (.prod (.int .i64) (.prod (.int .i64) (.prod (.sl 150 (.int .u64)) (.sl 2 (.int .i64))))))))) (.sl 192 (.prod (.int .i64) (.prod (.int .i64) (.prod (.int .i64) (.prod (.int .i64) (.prod (.int .i64) (.prod (.sl 150 (.int .u64)) (.sl 2 (.int .i64)))))))))))))), .int .i64 0], some (.prod (.sl 74 (.prod .str (.int .i64))) (.prod (.sl 160 (.prod (.int .i64) (.sl 109 (.prod (.int .i64) (.prod .bool (.prod (.sl 192 (.prod (.int .i64) (.prod (.int .i64) (.prod (.int .i64) (.prod (.int .i64) (.prod (.int .i64) (.prod (.sl 150 (.int .u64)) (.sl 2 (.int .i64))))))))) (.sl 192 (.prod (.int .i64) (.prod (.int .i64) (.prod (.int .i64) (.prod (.int .i64) (.prod (.int .i64) (.prod (.sl 150 (.int .u64)) (.sl 2 (.int .i64))))))))))))))) (.int .i64))), none, [(0, 22), (1, 55), (2, 2)]⟩),
(57, ⟨true, 3, 56, [.emp 74 (.prod .str (.int .i64)), .emp 160 (.prod (.int .i64) (.sl 109 (.prod (.int .i64) (.prod .bool (.prod (.sl 192 (.prod (.int .i64) (.prod (.int .i64) (.prod (.int .i64) (.prod (.int .i64) (.prod (.int .i64) (.prod (.sl 150 (.int .u64)) (.sl 2 (.int .i64))))))))) (.sl 192 (.prod (.int .i64) (.prod (.int .i64) (.prod (.int .i64) (.prod (.int .i64) (.prod (.int .i64) (.prod (.sl 150 (.int .u64)) (.sl 2 (.int .i64)))))))))))))), .int .i64 0], some (.prod (.sl 74 (.prod .str (.int .i64))) (.prod (.sl 160 (.prod (.int .i64) (.sl 109 (.prod (.int .i64) (.prod .bool (.prod (.sl 192 (.prod (.int .i64) (.prod (.int .i64) (.prod (.int .i64) (.prod (.int .i64) (.prod (.int .i64) (.prod (.sl 150 (.int .u64)) (.sl 2 (.int .i64))))))))) (.sl 192 (.prod (.int .i64) (.prod (.int .i64) (.prod (.int .i64) (.prod (.int .i64) (.prod (.int .i64) (.prod (.sl 150 (.int .u64)) (.sl 2 (.int .i64))))))))))))))) (.int .i64))), none, [(0, 22), (1, 55), (2, 2)]⟩),
(58, ⟨false, 1, 8, [.undef], none, none, []⟩),
(59, ⟨false, 1, 24, [.emp 126 (.prod (.int .i64) (.sl 114 (.prod (.int .i64) (.prod .bool (.prod (.sl 145 (.prod (.int .i64) (.prod (.int .i64) (.prod (.int .i64) (.prod (.int .i64) (.prod (.int .i64) (.prod (.sl 150 (.int .u64)) (.sl 2 (.int .i64))))))))) (.sl 145 (.prod (.int .i64) (.prod (.int .i64) (.prod (.int .i64) (.prod (.int .i64) (.prod (.int .i64) (.prod (.sl 150 (.int .u64)) (.sl 2 (.int .i64))))))))))))))], some (.sl 126 (.prod (.int .i64) (.sl 114 (.prod (.int .i64) (.prod .bool (.prod (.sl 145 (.prod (.int .i64) (.prod (.int .i64) (.prod (.int .i64) (.prod (.int .i64) (.prod (.int .i64) (.prod (.sl 150 (.int .u64)) (.sl 2 (.int .i64))))))))) (.sl 145 (.prod (.int .i64) (.prod (.int .i64) (.prod (.int .i64) (.prod (.int .i64) (.prod (.int .i64) (.prod (.sl 150 (.int .u64)) (.sl 2 (.int .i64))))))))))))))), some 126, []⟩),
(60, ⟨true, 3, 56, [.emp 95 (.prod .str (.int .i64)), .emp 126 (.prod (.int .i64) (.sl 114 (.prod (.int .i64) (.prod .bool (.prod (.sl 145 (.prod (.int .i64) (.prod (.int .i64) (.prod (.int .i64) (.prod (.int .i64) (.prod (.int .i64) (.prod (.sl 150 (.int .u64)) (.sl 2 (.int .i64))))))))) (.sl 145 (.prod (.int .i64) (.prod (.int .i64) (.prod (.int .i64) (.prod (.int .i64) (.prod (.int .i64) (.prod (.sl 150 (.int .u64)) (.sl 2 (.int .i64)))))))))))))), .int .i64 0], some (.prod (.sl 95 (.prod .str (.int .i64))) (.prod (.sl 126 (.prod (.int .i64) (.sl 114 (.prod (.int .i64) (.prod .bool (.prod (.sl 145 (.prod (.int .i64) (.prod (.int .i64) (.prod (.int .i64) (.prod (.int .i64) (.prod (.int .i64) (.prod (.sl 150 (.int .u64)) (.sl 2 (.int .i64))))))))) (.sl 145 (.prod (.int .i64) (.prod (.int .i64) (.prod (.int .i64) (.prod (.int .i64) (.prod (.int .i64) (.prod (.sl 150 (.int .u64)) (.sl 2 (.int .i64))))))))))))))) (.int .i64))), none, [(0, 31), (1, 59), (2, 2)]⟩),
(61, ⟨true, 3, 56, [.emp 95 (.prod .str (.int .i64)), .emp 126 (.prod (.int .i64) (.sl 114 (.prod (.int .i64) (.prod .bool (.prod (.sl 145 (.prod (.int .i64) (.prod (.int .i64) (.prod (.int .i64) (.prod (.int .i64) (.prod (.int .i64) (.prod (.sl 150 (.int .u64)) (.sl 2 (.int .i64))))))))) (.sl 145 (.prod (.int .i64) (.prod (.int .i64) (.prod (.int .i64) (.prod (.int .i64) (.prod (.int .i64) (.prod (.sl 150 (.int .u64)) (.sl 2 (.int .i64)))))))))))))), .int .i64 0], some (.prod (.sl 95 (.prod .str (.int .i64))) (.prod (.sl 126 (.prod (.int .i64) (.sl 114 (.prod (.int .i64) (.prod .bool (.prod (.sl 145 (.prod (.int .i64) (.prod (.int .i64) (.prod (.int .i64) (.prod (.int .i64) (.prod (.int .i64) (.prod (.sl 150 (.int .u64)) (.sl 2 (.int .i64))))))))) (.sl 145 (.prod (.int .i64) (.prod (.int .i64) (.prod (.int .i64) (.prod (.int .i64) (.prod (.int .i64) (.prod (.sl 150 (.int .u64)) (.sl 2 (.int .i64))))))))))))))) (.int .i64))), none, [(0, 31), (1, 59), (2, 2)]⟩),
(63, ⟨false, 1, 8, [.undef], none, none, []⟩),
(64, ⟨false, 1, 8, [.undef], none, none, []⟩),
(65, ⟨false, 1, 8, [.undef], none, none, []⟩),
(66, ⟨false, 1, 8, [.undef], none, none, []⟩),
(67, ⟨false, 1, 8, [.undef], none, none, []⟩),
(68, ⟨false, 1, 8, [.undef], none, none, []⟩),
(69, ⟨false, 1, 8, [.undef], none, none, []⟩),
(70, ⟨false, 1, 8, [.undef], none, none, []⟩),
(71, ⟨false, 1, 8, [.undef], none, none, []⟩),
(72, ⟨false, 1, 8, [.undef], none, none, []⟩),
(73, ⟨true, 2, 24, [.str [], .int .i64 0], some (.prod .str (.int .i64)), none, [(0, 9), (1, 2)]⟩),
(74, ⟨true, 2, 24, [.str [], .int .i64 0], some (.prod .str (.int .i64)), none, [(0, 9), (1, 2)]⟩),
(75, ⟨false, 1, 8, [.undef], none, none, []⟩),
(76, ⟨false, 1, 24, [.emp 192 (.prod (.int .i64) (.prod (.int .i64) (.prod (.int .i64) (.prod (.int .i64) (.prod (.int .i64) (.prod (.sl 150 (.int .u64)) (.sl 2 (.int .i64))))))))], some (.sl 192 (.prod (.int .i64) (.prod (.int .i64) (.prod (.int .i64) (.prod (.int .i64) (.prod (.int .i64) (.prod (.sl 150 (.int .u64)) (.sl 2 (.int .i64))))))))), some 192, []⟩),
(77, ⟨true, 1, 24, [.emp 192 (.prod (.int .i64) (.prod (.int .i64) (.prod (.int .i64) (.prod (.int .i64) (.prod (.int .i64) (.prod (.sl 150 (.int .u64)) (.sl 2 (.int .i64))))))))], some (.sl 192 (.prod (.int .i64) (.prod (.int .i64) (.prod (.int .i64) (.prod (.int .i64) (.prod (.int .i64) (.prod (.sl 150 (.int .u64)) (.sl 2 (.int .i64))))))))), none, [(0, 76)]⟩),
(78, ⟨true, 1, 24, [.emp 192 (.prod (.int .i64) (.prod (.int .i64) (.prod (.int .i64) (.prod (.int .i64) (.prod (.int .i64) (.prod (.sl 150 (.int .u64)) (.sl 2 (.int .i64))))))))], some (.sl 192 (.prod (.int .i64) (.prod (.int .i64) (.prod (.int .i64) (.prod (.int .i64) (.prod (.int .i64) (.prod (.sl 150 (.int .u64)) (.sl 2 (.int .i64))))))))), none, [(0, 76)]⟩),
(79, ⟨true, 2, 32, [.int .i64 0, .emp 192 (.prod (.int .i64) (.prod (.int .i64) (.prod (.int .i64) (.prod (.int .i64) (.prod (.int .i64) (.prod (.sl 150 (.int .u64)) (.sl 2 (.int .i64))))))))], some (.prod (.int .i64) (.sl 192 (.prod (.int .i64) (.prod (.int .i64) (.prod (.int .i64) (.prod (.int .i64) (.prod (.int .i64) (.prod (.sl 150 (.int .u64)) (.sl 2 (.int .i64)))))))))), none, [(0, 2), (1, 78)]⟩),
(80, ⟨true, 2, 32, [.int .i64 0, .emp 192 (.prod (.int .i64) (.prod (.int .i64) (.prod (.int .i64) (.prod (.int .i64) (.prod (.int .i64) (.prod (.sl 150 (.int .u64)) (.sl 2 (.int .i64))))))))], some (.prod (.int .i64) (.sl 192 (.prod (.int .i64) (.prod (.int .i64) (.prod (.int .i64) (.prod (.int .i64) (.prod (.int .i64) (.prod (.sl 150 (.int .u64)) (.sl 2 (.int .i64)))))))))), none, [(0, 2), (1, 78)]⟩),
(81, ⟨false, 1, 8, [.undef], none, none, []⟩),
(82, ⟨false, 1, 24, [.emp 150 (.int .u64)], some (.sl 150 (.int .u64)), some 150, []⟩),
(83, ⟨true, 2, 32, [.int .i64 0, .emp 150 (.int .u64)], some (.prod (.int .i64) (.sl 150 (.int .u64))), none, [(0, 2), (1, 82)]⟩),
(84, ⟨true, 2, 32, [.int .i64 0, .emp 150 (.int .u64)], some (.prod (.int .i64) (.sl 150 (.int .u64))), none, [(0, 2), (1, 82)]⟩),
(85, ⟨false, 1, 8, [.undef], none, none, []⟩),
(86, ⟨false, 1, 8, [.undef], none, none, []⟩),
(87, ⟨false, 1, 24, [.emp 145 (.prod (.int .i64) (.prod (.int .i64) (.prod (.int .i64) (.prod (.int .i64) (.prod (.int .i64) (.prod (.sl 150 (.int .u64)) (.sl 2 (.int .i64))))))))], some (.sl 145 (.prod (.int .i64) (.prod (.int .i64) (.prod (.int .i64) (.prod (.int .i64) (.prod (.int .i64) (.prod (.sl 150 (.int .u64)) (.sl 2 (.int .i64))))))))), some 145, []⟩),
(88, ⟨true, 1, 24, [.emp 145 (.prod (.int .i64) (.prod (.int .i64) (.prod (.int .i64) (.prod (.int .i64) (.prod (.int .i64) (.prod (.sl 150 (.int .u64)) (.sl 2 (.int .i64))))))))], some (.sl 145 (.prod (.int .i64) (.prod (.int .i64) (.prod (.int .i64) (.prod (.int .i64) (.prod (.int .i64) (.prod (.sl 150 (.int .u64)) (.sl 2 (.int .i64))))))))), none, [(0, 87)]⟩),
(89, ⟨true, 1, 24, [.emp 145 (.prod (.int .i64) (.prod (.int .i64) (.prod (.int .i64) (.prod (.int .i64) (.prod (.int .i64) (.prod (.sl 150 (.int .u64)) (.sl 2 (.int .i64))))))))], some (.sl 145 (.prod (.int .i64) (.prod (.int .i64) (.prod (.int .i64) (.prod (.int .i64) (.prod (.int .i64) (.prod (.sl 150 (.int .u64)) (.sl 2 (.int .i64))))))))), none, [(0, 87)]⟩),
(90, ⟨true, 2, 32, [.int .i64 0, .emp 145 (.prod (.int .i64) (.prod (.int .i64) (.prod (.int .i64) (.prod (.int .i64) (.prod (.int .i64) (.prod (.sl 150 (.int .u64)) (.sl 2 (.int .i64))))))))], some (.prod (.int .i64) (.sl 145 (.prod (.int .i64) (.prod (.int .i64) (.prod (.int .i64) (.prod (.int .i64) (.prod (.int .i64) (.prod (.sl 150 (.int .u64)) (.sl 2 (.int .i64)))))))))), none, [(0, 2), (1, 89)]⟩),
(91, ⟨true, 2, 32, [.int .i64 0, .emp 145 (.prod (.int .i64) (.prod (.int .i64) (.prod (.int .i64) (.prod (.int .i64) (.prod (.int .i64) (.prod (.sl 150 (.int .u64)) (.sl 2 (.int .i64))))))))], some (.prod (.int .i64) (.sl 145 (.prod (.int .i64) (.prod (.int .i64) (.prod (.int .i64) (.prod (.int .i64) (.prod (.int .i64) (.prod (.sl 150 (.int .u64)) (.sl 2 (.int .i64)))))))))), none, [(0, 2), (1, 89)]⟩),
(92, ⟨true, 2, 32, [.int .i64 0, .emp 150 (.int .u64)], some (.prod (.int .i64) (.sl 150 (.int .u64))), none, [(0, 2), (1, 82)]⟩),
(93, ⟨false, 1, 8, [.undef], none, none, []⟩),
(94, ⟨false, 1, 8, [.undef], none, none, []⟩),
(95, ⟨true, 2, 24, [.str [], .int .i64 0], some (.prod .str (.int .i64)), none, [(0, 9), (1, 2)]⟩),
(96, ⟨false, 1, 8, [.undef], none, none, []⟩),
(97, ⟨false, 1, 8, [.undef], none, none, []⟩),
(98, ⟨false, 1, 8, [.undef], none, none, []⟩),
(99, ⟨false, 1, 8, [.undef], none, none, []⟩),
(100, ⟨false, 1, 8, [.undef], none, none, []⟩),
(101, ⟨false, 1, 8, [.undef], none, none, []⟩),
(102, ⟨false, 1, 8, [.undef], none, none, []⟩),
(103, ⟨false, 1, 8, [.undef], none, none, []⟩),
(104, ⟨false, 1, 8, [.undef], none, none, []⟩),
(105, ⟨false, 1, 8, [.undef], none, none, []⟩),
(106, ⟨false, 1, 8, [.undef], none, none, []⟩),
(107, ⟨false, 1, 8, [.undef], none, none, []⟩),
(108, ⟨true, 4, 64, [.int .i64 0, .bool false, .emp 192 (.prod (.int .i64) (.prod (.int .i64) (.prod (.int .i64) (.prod (.int .i64) (.prod (.int .i64) (.prod (.sl 150 (.int .u64)) (.sl 2 (.int .i64)))))))), .emp 192 (.prod (.int .i64) (.prod (.int .i64) (.prod (.int .i64) (.prod (.int .i64) (.prod (.int .i64) (.prod (.sl 150 (.int .u64)) (.sl 2 (.int .i64))))))))], some (.prod (.int .i64) (.prod .bool (.prod (.sl 192 (.prod (.int .i64) (.prod (.int .i64) (.prod (.int .i64) (.prod (.int .i64) (.prod (.int .i64) (.prod (.sl 150 (.int .u64)) (.sl 2 (.int .i64))))))))) (.sl 192 (.prod (.int .i64) (.prod (.int .i64) (.prod (.int .i64) (.prod (.int .i64) (.prod (.int .i64) (.prod (.sl 150 (.int .u64)) (.sl 2 (.int .i64)))))))))))), none, [(0, 2), (1, 4), (2, 78), (3, 78)]⟩),
(109, ⟨true, 4, 64, [.int .i64 0, .bool false, .emp 192 (.prod (.int .i64) (.prod (.int .i64) (.prod (.int .i64) (.prod (.int .i64) (.prod (.int .i64) (.prod (.sl 150 (.int .u64)) (.sl 2 (.int .i64)))))))), .emp 192 (.prod (.int .i64) (.prod (.int .i64) (.prod (.int .i64) (.prod (.int .i64) (.prod (.int .i64) (.prod (.sl 150 (.int .u64)) (.sl 2 (.int .i64))))))))], some (.prod (.int .i64) (.prod .bool (.prod (.sl 192 (.prod (.int .i64) (.prod (.int .i64) (.prod (.int .i64) (.prod (.int .i64) (.prod (.int .i64) (.prod (.sl 150 (.int .u64)) (.sl 2 (.int .i64))))))))) (.sl 192 (.prod (.int .i64) (.prod (.int .i64) (.prod (.int .i64) (.prod (.int .i64) (.prod (.int .i64) (.prod (.sl 150 (.int .u64)) (.sl 2 (.int .i64)))))))))))), none, [(0, 2), (1, 4), (2, 78), (3, 78)]⟩),
(110, ⟨false, 1, 8, [.undef], none, none, []⟩),
(112, ⟨false, 1, 8, [.undef], none, none, []⟩),
(113, ⟨true, 4, 64, [.int .i64 0, .bool false, .emp 145 (.prod (.int .i64) (.prod (.int .i64) (.prod (.int .i64) (.prod (.int .i64) (.prod (.int .i64) (.prod (.sl 150 (.int .u64)) (.sl 2 (.int .i64)))))))), .emp 145 (.prod (.int .i64) (.prod (.int .i64) (.prod (.int .i64) (.prod (.int .i64) (.prod (.int .i64) (.prod (.sl 150 (.int .u64)) (.sl 2 (.int .i64))))))))], some (.prod (.int .i64) (.prod .bool (.prod (.sl 145 (.prod (.int .i64) (.prod (.int .i64) (.prod (.int .i64) (.prod (.int .i64) (.prod (.int .i64) (.prod (.sl 150 (.int .u64)) (.sl 2 (.int .i64))))))))) (.sl 145 (.prod (.int .i64) (.prod (.int .i64) (.prod (.int .i64) (.prod (.int .i64) (.prod (.int .i64) (.prod (.sl 150 (.int .u64)) (.sl 2 (.int .i64)))))))))))), none, [(0, 2), (1, 4), (2, 89), (3, 89)]⟩),
(114, ⟨true, 4, 64, [.int .i64 0, .bool false, .emp 145 (.prod (.int .i64) (.prod (.int .i64) (.prod (.int .i64) (.prod (.int .i64) (.prod (.int .i64) (.prod (.sl 150 (.int .u64)) (.sl 2 (.int .i64)))))))), .emp 145 (.prod (.int .i64) (.prod (.int .i64) (.prod (.int .i64) (.prod (.int .i64) (.prod (.int .i64) (.prod (.sl 150 (.int .u64)) (.sl 2 (.int .i64))))))))], some (.prod (.int .i64) (.prod .bool (.prod (.sl 145 (.prod (.int .i64) (.prod (.int .i64) (.prod (.int .i64) (.prod (.int .i64) (.prod (.int .i64) (.prod (.sl 150 (.int .u64)) (.sl 2 (.int .i64))))))))) (.sl 145 (.prod (.int .i64) (.prod (.int .i64) (.prod (.int .i64) (.prod (.int .i64) (.prod (.int .i64) (.prod (.sl 150 (.int .u64)) (.sl 2 (.int .i64)))))))))))), none, [(0, 2), (1, 4), (2, 89), (3, 89)]⟩),
(115, ⟨false, 1, 8, [.undef], none, none, []⟩),
(116, ⟨false, 1, 8, [.undef], none, none, []⟩),
(117, ⟨false, 1, 8, [.undef], none, none, []⟩),
(118, ⟨false, 1, 8, [.undef], none, none, []⟩),
(119, ⟨false, 1, 8, [.undef], none, none, []⟩),
(120, ⟨false, 1, 8, [.undef], none, none, []⟩),
(121, ⟨false, 1, 8, [.undef], none, none, []⟩),
(122, ⟨false, 1, 8, [.undef], none, none, []⟩),
(123, ⟨false, 1, 8, [.undef], none, none, []⟩),
(124, ⟨false, 1, 8, [.undef], none, none, []⟩),
(125, ⟨true, 2, 32, [.int .i64 0, .emp 114 (.prod (.int .i64) (.prod .bool (.prod (.sl 145 (.prod (.int .i64) (.prod (.int .i64) (.prod (.int .i64) (.prod (.int .i64) (.prod (.int .i64) (.prod (.sl 150 (.int .u64)) (.sl 2 (.int .i64))))))))) (.sl 145 (.prod (.int .i64) (.prod (.int .i64) (.prod (.int .i64) (.prod (.int .i64) (.prod (.int .i64) (.prod (.sl 150 (.int .u64)) (.sl 2 (.int .i64))))))))))))], some (.prod (.int .i64) (.sl 114 (.prod (.int .i64) (.prod .bool (.prod (.sl 145 (.prod (.int .i64) (.prod (.int .i64) (.prod (.int .i64) (.prod (.int .i64) (.prod (.int .i64) (.prod (.sl 150 (.int .u64)) (.sl 2 (.int .i64))))))))) (.sl 145 (.prod (.int .i64) (.prod (.int .i64) (.prod (.int .i64) (.prod (.int .i64) (.prod (.int .i64) (.prod (.sl 150 (.int .u64)) (.sl 2 (.int .i64)))))))))))))), none, [(0, 2), (1, 48)]⟩),
(126, ⟨true, 2, 32, [.int .i64 0, .emp 114 (.prod (.int .i64) (.prod .bool (.prod (.sl 145 (.prod (.int .i64) (.prod (.int .i64) (.prod (.int .i64) (.prod (.int .i64) (.prod (.int .i64) (.prod (.sl 150 (.int .u64)) (.sl 2 (.int .i64))))))))) (.sl 145 (.prod (.int .i64) (.prod (.int .i64) (.prod (.int .i64) (.prod (.int .i64) (.prod (.int .i64) (.prod (.sl 150 (.int .u64)) (.sl 2 (.int .i64))))))))))))], some (.prod (.int .i64) (.sl 114 (.prod (.int .i64) (.prod .bool (.prod (.sl 145 (.prod (.int .i64) (.prod (.int .i64) (.prod (.int .i64) (.prod (.int .i64) (.prod (.int .i64) (.prod (.sl 150 (.int .u64)) (.sl 2 (.int .i64))))))))) (.sl 145 (.prod (.int .i64) (.prod (.int .i64) (.prod (.int .i64) (.prod (.int .i64) (.prod (.int .i64) (.prod (.sl 150 (.int .u64)) (.sl 2 (.int .i64)))))))))))))), none, [(0, 2), (1, 48)]⟩),
(127, ⟨false, 1, 8, [.undef], none, none, []⟩),
(128, ⟨false, 1, 8, [.undef], none, none, []⟩),
(129, ⟨false, 1, 8, [.undef], none, none, []⟩),
(130, ⟨false, 1, 8, [.undef], none, none, []⟩),
(131, ⟨false, 1, 8, [.undef], none, none, []⟩),
(132, ⟨false, 1, 8, [.undef], none, none, []⟩),
(133, ⟨false, 1, 8, [.undef], none, none, []⟩),
(134, ⟨false, 1, 8, [.undef], none, none, []⟩),
(135, ⟨false, 1, 8, [.undef], none, none, []⟩),
(136, ⟨false, 1, 8, [.int .u64 0], some (.int .u64), none, []⟩),
(137, ⟨false, 1, 8, [.undef], none, none, []⟩),
(138, ⟨false, 1, 8, [.undef], none, none, []⟩),
(139, ⟨false, 1, 8, [.undef], none, none, []⟩),
(140, ⟨false, 1, 8, [.undef], none, none, []⟩),
(141, ⟨false, 1, 8, [.undef], none, none, []⟩),
(142, ⟨false, 1, 8, [.undef], none, none, []⟩),
(143, ⟨false, 1, 8, [.undef], none, none, []⟩),
(144, ⟨true, 7, 88, [.int .i64 0, .int .i64 0, .int .i64 0, .int .i64 0, .int .i64 0, .emp 150 (.int .u64), .emp 2 (.int .i64)], some (.prod (.int .i64) (.prod (.int .i64) (.prod (.int .i64) (.prod (.int .i64) (.prod (.int .i64) (.prod (.sl 150 (.int .u64)) (.sl 2 (.int .i64)))))))), none, [(0, 2), (1, 2), (2, 2), (3, 2), (4, 92), (6, 45)]⟩),
(145, ⟨true, 7, 88, [.int .i64 0, .int .i64 0, .int .i64 0, .int .i64 0, .int .i64 0, .emp 150 (.int .u64), .emp 2 (.int .i64)], some (.prod (.int .i64) (.prod (.int .i64) (.prod (.int .i64) (.prod (.int .i64) (.prod (.int .i64) (.prod (.sl 150 (.int .u64)) (.sl 2 (.int .i64)))))))), none, [(0, 2), (1, 2), (2, 2), (3, 2), (4, 92), (6, 45)]⟩),
(146, ⟨false, 1, 8, [.undef], none, none, []⟩),
(147, ⟨false, 1, 8, [.undef], none, none, []⟩),
(148, ⟨false, 1, 8, [.undef], none, none, []⟩),
(149, ⟨false, 1, 8, [.undef], none, none, []⟩),
(150, ⟨false, 1, 8, [.int .u64 0], some (.int .u64), none, []⟩),
(151, ⟨false, 1, 8, [.undef], none, none, []⟩),
(152, ⟨false, 1, 8, [.undef], none, none, []⟩),
(153, ⟨false, 1, 8, [.undef], none, none, []⟩),
(154, ⟨false, 1, 8, [.undef], none, none, []⟩),
(155, ⟨false, 1, 24, [.emp 5 (.int .u8)], some (.sl 5 (.int .u8)), some 5, []⟩),
(156, ⟨false, 1, 8, [.undef], none, none, []⟩),
(157, ⟨false, 1, 8, [.undef], none, none, []⟩),
(158, ⟨false, 1, 8, [.undef], none, none, []⟩),
(159, ⟨true, 2, 32, [.int .i64 0, .emp 109 (.prod (.int .i64) (.prod .bool (.prod (.sl 192 (.prod (.int .i64) (.prod (.int .i64) (.prod (.int .i64) (.prod (.int .i64) (.prod (.int .i64) (.prod (.sl 150 (.int .u64)) (.sl 2 (.int .i64))))))))) (.sl 192 (.prod (.int .i64) (.prod (.int .i64) (.prod (.int .i64) (.prod (.int .i64) (.prod (.int .i64) (.prod (.sl 150 (.int .u64)) (.sl 2 (.int .i64))))))))))))], some (.prod (.int .i64) (.sl 109 (.prod (.int .i64) (.prod .bool (.prod (.sl 192 (.prod (.int .i64) (.prod (.int .i64) (.prod (.int .i64) (.prod (.int .i64) (.prod (.int .i64) (.prod (.sl 150 (.int .u64)) (.sl 2 (.int .i64))))))))) (.sl 192 (.prod (.int .i64) (.prod (.int .i64) (.prod (.int .i64) (.prod (.int .i64) (.prod (.int .i64) (.prod (.sl 150 (.int .u64)) (.sl 2 (.int .i64)))))))))))))), none, [(0, 2), (1, 43)]⟩),
(160, ⟨true, 2, 32, [.int .i64 0, .emp 109 (.prod (.int .i64) (.prod .bool (.prod (.sl 192 (.prod (.int .i64) (.prod (.int .i64) (.prod (.int .i64) (.prod (.int .i64) (.prod (.int .i64) (.prod (.sl 150 (.int .u64)) (.sl 2 (.int .i64))))))))) (.sl 192 (.prod (.int .i64) (.prod (.int .i64) (.prod (.int .i64) (.prod (.int .i64) (.prod (.int .i64) (.prod (.sl 150 (.int .u64)) (.sl 2 (.int .i64))))))))))))], some (.prod (.int .i64) (.sl 109 (.prod (.int .i64) (.prod .bool (.prod (.sl 192 (.prod (.int .i64) (.prod (.int .i64) (.prod (.int .i64) (.prod (.int .i64) (.prod (.int .i64) (.prod (.sl 150 (.int .u64)) (.sl 2 (.int .i64))))))))) (.sl 192 (.prod (.int .i64) (.prod (.int .i64) (.prod (.int .i64) (.prod (.int .i64) (.prod (.int .i64) (.prod (.sl 150 (.int .u64)) (.sl 2 (.int .i64)))))))))))))), none, [(0, 2), (1, 43)]⟩),
(161, ⟨false, 1, 8, [.undef], none, none, []⟩),
(162, ⟨false, 1, 8, [.undef], none, none, []⟩),
(163, ⟨false, 1, 8, [.undef], none, none, []⟩),
(164, ⟨false, 1, 8, [.undef], none, none, []⟩),
(165, ⟨false, 1, 8, [.undef], none, none, []⟩),
(166, ⟨false, 1, 8, [.undef], none, none, []⟩),
(167, ⟨false, 1, 8, [.undef], none, none, []⟩),
(168, ⟨false, 1, 8, [.undef], none, none, []⟩),
(170, ⟨false, 1, 8, [.undef], none, none, []⟩),
(172, ⟨false, 1, 8, [.undef], none, none, []⟩),
(173, ⟨false, 1, 8, [.undef], none, none, []⟩),
(174, ⟨false, 1, 8, [.undef], none, none, []⟩),
(175, ⟨false, 1, 8, [.undef], none, none, []⟩),
(176, ⟨false, 1, 8, [.undef], none, none, []⟩),
(177, ⟨false, 1, 8, [.undef], none, none, []⟩),
(178, ⟨false, 1, 8, [.undef], none, none, []⟩),
(179, ⟨false, 1, 8, [.undef], none, none, []⟩),
(180, ⟨false, 1, 8, [.undef], none, none, []⟩),
(181, ⟨false, 1, 8, [.undef], none, none, []⟩),
(182, ⟨false, 1, 8, [.undef], none, none, []⟩),
(183, ⟨false, 1, 8, [.undef], none, none, []⟩),
(184, ⟨false, 1, 8, [.undef], none, none, []⟩),
(185, ⟨false, 1, 8, [.undef], none, none, []⟩),
(186, ⟨false, 1, 8, [.undef], none, none, []⟩),
(187, ⟨false, 1, 8, [.undef], none, none, []⟩),
(188, ⟨false, 1, 8, [.undef], none, none, []⟩),
(189, ⟨false, 1, 8, [.undef], none, none, []⟩),
(190, ⟨false, 1, 8, [.undef], none, none, []⟩),
(191, ⟨true, 7, 88, [.int .i64 0, .int .i64 0, .int .i64 0, .int .i64 0, .int .i64 0, .emp 150 (.int .u64), .emp 2 (.int .i64)], some (.prod (.int .i64) (.prod (.int .i64) (.prod (.int .i64) (.prod (.int .i64) (.prod (.int .i64) (.prod (.sl 150 (.int .u64)) (.sl 2 (.int .i64)))))))), none, [(0, 2), (1, 2), (2, 2), (3, 2), (4, 84), (6, 45)]⟩),
(192, ⟨true, 7, 88, [.int .i64 0, .int .i64 0, .int .i64 0, .int .i64 0, .int .i64 0, .emp 150 (.int .u64), .emp 2 (.int .i64)], some (.prod (.int .i64) (.prod (.int .i64) (.prod (.int .i64) (.prod (.int .i64) (.prod (.int .i64) (.prod (.sl 150 (.int .u64)) (.sl 2 (.int .i64)))))))), none, [(0, 2), (1, 2), (2, 2), (3, 2), (4, 84), (6, 45)]⟩),
(193, ⟨false, 1, 24, [.emp 4 .bool], some (.sl 4 .bool), some 4, []⟩),
(194, ⟨false, 1, 8, [.undef], none, none, []⟩),
(195, ⟨false, 1, 8, [.undef], none, none, []⟩),
(196, ⟨false, 1, 8, [.undef], none, none, []⟩),
(197, ⟨false, 1, 8, [.undef], none, none, []⟩),
(198, ⟨false, 1, 8, [.undef], none, none, []⟩),
(199, ⟨false, 1, 8, [.undef], none, none, []⟩),
(200, ⟨false, 1, 8, [.undef], none, none, []⟩),
(201, ⟨false, 1, 8, [.undef], none, none, []⟩),
(202, ⟨false, 1, 8, [.undef], none, none, []⟩)]
noncomputable def fns : List (Nat × Func) := [(3, Tryz.f3), (9, Tryz.f9), (10, Tryz.f10), (11, Tryz.f11), (12, Tryz.f12), (13, Tryz.f13), (14, Tryz.f14), (15, Tryz.f15), (16, Tryz.f16), (17, Tryz.f17), (18, Tryz.f18), (19, Tryz.f19), (20, Tryz.f20), (21, Tryz.f21), (22, Tryz.f22), (23, Tryz.f23), (28, Tryz.f28), (31, Tryz.f31), (46, Tryz.f46), (47, Tryz.f47), (48, Tryz.f48), (49, Tryz.f49), (50, Tryz.f50), (51, Tryz.f51), (52, Tryz.f52), (53, Tryz.f53), (54, Tryz.f54), (55, Tryz.f55), (56, Tryz.f56), (57, Tryz.f57), (58, Tryz.f58), (59, Tryz.f59), (60, Tryz.f60), (61, Tryz.f61), (62, Tryz.f62), (63, Tryz.f63), (64, Tryz.f64), (65, Tryz.f65), (66, Tryz.f66), (67, Tryz.f67), (68, Tryz.f68), (90, Tryz.f90), (92, Tryz.f92), (93, Tryz.f93), (94, Tryz.f94), (95, Tryz.f95), (96, Tryz.f96), (105, Tryz.f105), (106, Tryz.f106), (107, Tryz.f107), (108, Tryz.f108), (109, Tryz.f109), (110, Tryz.f110), (111, Tryz.f111), (112, Tryz.f112), (113, Tryz.f113), (114, Tryz.f114), (115, Tryz.f115), (116, Tryz.f116), (117, Tryz.f117), (118, Tryz.f118), (119, Tryz.f119), (132, Tryz.f132), (133, Tryz.f133), (134, Tryz.f134), (141, Tryz.f141), (142, Tryz.f142), (143, Tryz.f143), (144, Tryz.f144), (145, Tryz.f145), (146, Tryz.f146), (147, Tryz.f147), (148, Tryz.f148), (149, Tryz.f149), (150, Tryz.f150), (151, Tryz.f151), (152, Tryz.f152), (153, Tryz.f153), (154, Tryz.f154), (155, Tryz.f155), (156, Tryz.f156), (157, Tryz.f157), (162, Tryz.f162), (163, Tryz.f163), (164, Tryz.f164), (165, Tryz.f165), (166, Tryz.f166), (167, Tryz.f167), (168, Tryz.f168), (169, Tryz.f169), (170, Tryz.f170), (171, Tryz.f171), (172, Tryz.f172), (173, Tryz.f173), (174, Tryz.f174), (175, Tryz.f175), (176, Tryz.f176), (179, Tryz.f179), (180, Tryz.f180), (181, Tryz.f181), (182, Tryz.f182), (183, Tryz.f183)]
def fis : List (Nat × Fi) := [
(3, ⟨[], [], [(1000018, ⟨⟨[0, 1, 2, 8, 9, 10, 11, 12, 13, 14], []⟩, [(1000000, ⟨[6], []⟩)], ⟨[6], []⟩⟩), (1000029, ⟨⟨[0, 1, 2, 8, 9, 13, 103], []⟩, [(1000000, ⟨[0, 1, 2, 8, 9, 13], []⟩)], ⟨[6], []⟩⟩)]⟩),
(9, ⟨[], [], [(5, ⟨⟨[0, 1, 5], []⟩, [(0, ⟨[1], []⟩)], ⟨[4], []⟩⟩)]⟩),
(10, ⟨[], [], [(5, ⟨⟨[0, 1, 5], []⟩, [(0, ⟨[1], []⟩)], ⟨[4], []⟩⟩)]⟩),
(11, ⟨[], [], [(5, ⟨⟨[0, 1, 5], []⟩, [(0, ⟨[1], []⟩)], ⟨[4], []⟩⟩)]⟩),
(12, ⟨[], [], [(5, ⟨⟨[0, 1, 2, 8, 9], []⟩, [(0, ⟨[1, 2, 8], []⟩)], ⟨[6, 7], []⟩⟩), (10, ⟨⟨[1, 2, 8, 10], [(8, 0, .own 99)]⟩, [(2, ⟨[1, 8], []⟩)], ⟨[6, 7], []⟩⟩), (14, ⟨⟨[1, 8, 11], []⟩, [(4, ⟨[8], []⟩)], ⟨[6, 7], []⟩⟩)]⟩),
(13, ⟨[], [], [(3, ⟨⟨[0, 3, 4], []⟩, [(0, ⟨[3], []⟩)], ⟨[2], []⟩⟩)]⟩),
(14, ⟨[], [], [(3, ⟨⟨[0, 3, 4], []⟩, [(0, ⟨[3], []⟩)], ⟨[2], []⟩⟩)]⟩),
(15, ⟨[], [], [(3, ⟨⟨[0, 3, 4], []⟩, [(0, ⟨[3], []⟩)], ⟨[2], []⟩⟩)]⟩),
(16, ⟨[], [], [(7, ⟨⟨[1, 8, 27, 28, 29], []⟩, [(0, ⟨[1, 8], []⟩)], ⟨[6, 7], []⟩⟩), (12, ⟨⟨[1, 8, 11], []⟩, [(2, ⟨[8], []⟩)], ⟨[6, 7], []⟩⟩)]⟩),
(17, ⟨[], [], [(4, ⟨⟨[0, 1, 5], []⟩, [(0, ⟨[], []⟩)], ⟨[4], []⟩⟩)]⟩),
(18, ⟨[], [], [(4, ⟨⟨[0, 1, 5], []⟩, [(0, ⟨[], []⟩)], ⟨[4], []⟩⟩)]⟩),
(19, ⟨[], [], [(4, ⟨⟨[0, 1, 5], []⟩, [(0, ⟨[], []⟩)], ⟨[4], []⟩⟩)]⟩),
(20, ⟨[1], [], [(2, ⟨⟨[0, 1, 5], []⟩, [(0, ⟨[1], []⟩)], ⟨[4], []⟩⟩)]⟩),
(21, ⟨[1], [], [(2, ⟨⟨[0, 1, 5], []⟩, [(0, ⟨[1], []⟩)], ⟨[4], []⟩⟩)]⟩),
(22, ⟨[1], [], [(2, ⟨⟨[0, 1, 5], []⟩, [(0, ⟨[1], []⟩)], ⟨[4], []⟩⟩)]⟩),
(23, ⟨[], [], [(2, ⟨⟨[0, 1, 5], []⟩, [(0, ⟨[1], []⟩)], ⟨[4], []⟩⟩)]⟩),
(28, ⟨[], [], [(4, ⟨⟨[0, 1, 5], []⟩, [(0, ⟨[], []⟩)], ⟨[4], []⟩⟩)]⟩),
(31, ⟨[1], [], [(2, ⟨⟨[0, 1, 5], []⟩, [(0, ⟨[1], []⟩)], ⟨[4], []⟩⟩)]⟩),
(46, ⟨[], [], []⟩),
(47, ⟨[], [], []⟩),
(48, ⟨[], [], []⟩),
(49, ⟨[], [], [(4, ⟨⟨[0, 1, 5], []⟩, [(0, ⟨[], []⟩)], ⟨[4], []⟩⟩)]⟩),
(50, ⟨[], [], []⟩),
(51, ⟨[], [], []⟩),
(52, ⟨[], [], [(3, ⟨⟨[0, 3, 4, 5, 6], [(5, 0, .own 1)]⟩, [(0, ⟨[4, 5], []⟩)], ⟨[4], []⟩⟩), (7, ⟨⟨[0, 3, 4, 5, 6, 7, 8], [(5, 0, .own 1), (7, 0, .own 1)]⟩, [(2, ⟨[0, 3, 4, 5, 6, 7], []⟩)], ⟨[4], []⟩⟩)]⟩),
(53, ⟨[], [], []⟩),
(54, ⟨[], [], []⟩),
(55, ⟨[], [], []⟩),
(56, ⟨[], [], []⟩),
(57, ⟨[], [], []⟩),
(58, ⟨[], [], []⟩),
(59, ⟨[], [], []⟩),
(60, ⟨[], [], []⟩),
(61, ⟨[], [], [(3, ⟨⟨[0, 3, 4, 5, 17, 18], [(5, 0, .own 1)]⟩, [(0, ⟨[4, 5], []⟩)], ⟨[4], []⟩⟩), (8, ⟨⟨[0, 3, 4, 5, 6, 7, 8, 17, 18, 34, 35, 36], [(5, 0, .own 1), (8, 0, .own 1)]⟩, [(2, ⟨[0, 3, 4, 5, 6, 7, 8, 17, 18], []⟩)], ⟨[4], []⟩⟩)]⟩),
(62, ⟨[], [], []⟩),
(63, ⟨[], [], []⟩),
(64, ⟨[], [], []⟩),
(65, ⟨[], [], [(4, ⟨⟨[0, 3], []⟩, [(0, ⟨[3], []⟩)], ⟨[2], []⟩⟩)]⟩),
(66, ⟨[1], [], [(2, ⟨⟨[0, 1, 5], []⟩, [(0, ⟨[1], []⟩)], ⟨[4], []⟩⟩)]⟩),
(67, ⟨[1], [], [(2, ⟨⟨[0, 1, 5], []⟩, [(0, ⟨[1], []⟩)], ⟨[4], []⟩⟩)]⟩),
(68, ⟨[], [], [(2, ⟨⟨[0, 1, 5], []⟩, [(0, ⟨[1], []⟩)], ⟨[4], []⟩⟩)]⟩),
(90, ⟨[], [], [(4, ⟨⟨[0, 3], []⟩, [(0, ⟨[], []⟩)], ⟨[2], []⟩⟩)]⟩),
(92, ⟨[], [], []⟩),
(93, ⟨[], [], [(5, ⟨⟨[0, 3, 4], []⟩, [(0, ⟨[3], []⟩)], ⟨[2], []⟩⟩), (10, ⟨⟨[0, 3, 4, 5], []⟩, [(2, ⟨[0, 3, 4], []⟩)], ⟨[2], []⟩⟩)]⟩),
(94, ⟨[], [], [(4, ⟨⟨[0, 3], []⟩, [(0, ⟨[], []⟩)], ⟨[2], []⟩⟩)]⟩),
(95, ⟨[], [], []⟩),
(96, ⟨[], [], []⟩),
(105, ⟨[], [], []⟩),
(106, ⟨[], [], []⟩),
(107, ⟨[], [], [(4, ⟨⟨[1, 3], []⟩, [(0, ⟨[], []⟩)], ⟨[2], []⟩⟩)]⟩),
(108, ⟨[], [], []⟩),
(109, ⟨[], [none], [(10, ⟨⟨[2, 6, 7, 8], [(1000007, 1, .dat)]⟩, [(1, ⟨[6, 7], []⟩)], ⟨[6], []⟩⟩)]⟩),
(110, ⟨[], [], []⟩),
(111, ⟨[], [], [(3, ⟨⟨[0, 3, 4], []⟩, [(0, ⟨[3], []⟩)], ⟨[2], []⟩⟩)]⟩),
(112, ⟨[], [], [(5, ⟨⟨[0, 3, 9, 10, 11], []⟩, [(0, ⟨[3], []⟩)], ⟨[2], []⟩⟩)]⟩),
(113, ⟨[], [], [(4, ⟨⟨[0, 12, 13, 14], []⟩, [(0, ⟨[], []⟩)], ⟨[4], []⟩⟩)]⟩),
(114, ⟨[], [], [(2, ⟨⟨[0, 1, 7, 8], []⟩, [(0, ⟨[], []⟩)], ⟨[4], []⟩⟩)]⟩),
(115, ⟨[], [], []⟩),
(116, ⟨[], [], []⟩),
(117, ⟨[], [none], [(9, ⟨⟨[6, 7, 36, 37, 38], [(1000007, 1, .dat)]⟩, [(1, ⟨[6, 7], []⟩)], ⟨[6], []⟩⟩)]⟩),
(118, ⟨[], [], [(4, ⟨⟨[0, 1, 5], []⟩, [(0, ⟨[], []⟩)], ⟨[4], []⟩⟩)]⟩),
(119, ⟨[], [], []⟩),
(132, ⟨[], [], []⟩),
(133, ⟨[], [], [(2, ⟨⟨[0, 1, 7, 8], []⟩, [(0, ⟨[], []⟩)], ⟨[4], []⟩⟩)]⟩),
(134, ⟨[], [], []⟩),
(141, ⟨[], [], [(5, ⟨⟨[0, 1, 5], []⟩, [(0, ⟨[1], []⟩)], ⟨[4], []⟩⟩)]⟩),
(142, ⟨[], [], []⟩),
(143, ⟨[], [], [(7, ⟨⟨[0, 3, 5, 6, 7, 8], [(6, 0, .own 99)]⟩, [(0, ⟨[5, 6, 7], []⟩)], ⟨[4], []⟩⟩), (16, ⟨⟨[0, 3, 5, 6, 7, 8, 10], []⟩, [(2, ⟨[0, 3, 5, 6, 7, 8], []⟩)], ⟨[4], []⟩⟩), (20, ⟨⟨[5, 6, 7, 11], []⟩, [(4, ⟨[6], []⟩)], ⟨[4], []⟩⟩)]⟩),
(144, ⟨[], [], []⟩),
(145, ⟨[], [], []⟩),
(146, ⟨[], [], [(8, ⟨⟨[1, 6, 8, 9, 10], [(8, 0, .own 99)]⟩, [(0, ⟨[6, 8], []⟩)], ⟨[6, 7], []⟩⟩)]⟩),
(147, ⟨[], [], [(6, ⟨⟨[1, 4, 6, 7, 8], []⟩, [(0, ⟨[4, 7], []⟩)], ⟨[4, 5], []⟩⟩)]⟩),
(148, ⟨[], [], [(6, ⟨⟨[1, 4, 6, 7, 8], [(7, 0, .own 99)]⟩, [(0, ⟨[4, 7], []⟩)], ⟨[4, 5], []⟩⟩)]⟩),
(149, ⟨[], [], [(3, ⟨⟨[0, 3, 4], []⟩, [(0, ⟨[3], []⟩)], ⟨[2], []⟩⟩)]⟩),
(150, ⟨[], [], []⟩),
(151, ⟨[], [], [(6, ⟨⟨[0, 3, 6, 7, 8, 29, 30], []⟩, [(0, ⟨[6, 7, 8], []⟩)], ⟨[4, 5], []⟩⟩), (13, ⟨⟨[0, 3, 6, 7, 8, 9, 10, 11, 29, 30, 52, 53, 54], []⟩, [(2, ⟨[0, 3, 6, 7, 8, 9, 10, 11, 29, 30], []⟩)], ⟨[4, 5], []⟩⟩)]⟩),
(152, ⟨[], [], []⟩),
(153, ⟨[], [], [(3, ⟨⟨[1, 2, 3, 6, 7, 15, 16], []⟩, [(0, ⟨[2, 6, 7], []⟩)], ⟨[6], []⟩⟩)]⟩),
(154, ⟨[], [], []⟩),
(155, ⟨[], [], [(3, ⟨⟨[2, 4, 5, 12, 13], []⟩, [(0, ⟨[4, 5], []⟩)], ⟨[4], []⟩⟩)]⟩),
(156, ⟨[], [], [(5, ⟨⟨[3, 6, 7, 26, 27], []⟩, [(0, ⟨[6, 7], []⟩)], ⟨[6], []⟩⟩)]⟩),
(157, ⟨[], [], [(4, ⟨⟨[0, 1, 5], []⟩, [(0, ⟨[], []⟩)], ⟨[4], []⟩⟩)]⟩),
(162, ⟨[], [], [(5, ⟨⟨[0, 2, 4, 5], []⟩, [(0, ⟨[2, 4], []⟩)], ⟨[2, 3], []⟩⟩)]⟩),
(163, ⟨[], [], []⟩),
(164, ⟨[], [], []⟩),
(165, ⟨[], [], [(2, ⟨⟨[0, 2, 4, 7], []⟩, [(0, ⟨[0, 4], []⟩)], ⟨[6], []⟩⟩), (1000007, ⟨⟨[0, 4, 63], []⟩, [(1000000, ⟨[0, 4], []⟩)], ⟨[6], []⟩⟩), (1000008, ⟨⟨[0, 4], []⟩, [(1000000, ⟨[6], []⟩)], ⟨[6], []⟩⟩)]⟩),
(166, ⟨[], [], [(3, ⟨⟨[0, 2, 4, 7, 8], []⟩, [(0, ⟨[0, 4, 7], []⟩)], ⟨[6], []⟩⟩)]⟩),
(167, ⟨[], [], [(3, ⟨⟨[1, 3, 4], [(3, 0, .own 99)]⟩, [(0, ⟨[3], []⟩)], ⟨[2], []⟩⟩)]⟩),
(168, ⟨[], [], []⟩),
(169, ⟨[], [], []⟩),
(170, ⟨[], [], [(11, ⟨⟨[8, 80, 81, 82], []⟩, [(1, ⟨[8], []⟩)], ⟨[6], []⟩⟩), (1000005, ⟨⟨[0, 1, 2, 7, 17], []⟩, [(1000000, ⟨[], []⟩)], ⟨[6], []⟩⟩), (1000009, ⟨⟨[0, 2, 7, 69], []⟩, [(1000000, ⟨[], []⟩)], ⟨[6], []⟩⟩), (1000021, ⟨⟨[0, 7, 137], []⟩, [(1000000, ⟨[], []⟩)], ⟨[6], []⟩⟩)]⟩),
(171, ⟨[], [], [(1000002, ⟨⟨[0, 3], []⟩, [(1000000, ⟨[2], []⟩)], ⟨[2], []⟩⟩), (1000003, ⟨⟨[0, 52], []⟩, [(1000000, ⟨[0], []⟩)], ⟨[2], []⟩⟩)]⟩),
(172, ⟨[], [], []⟩),
(173, ⟨[1], [], [(2, ⟨⟨[1, 3, 10, 11, 12], []⟩, [(0, ⟨[], []⟩)], ⟨[], []⟩⟩)]⟩),
(174, ⟨[], [], []⟩),
(175, ⟨[1], [], []⟩),
(176, ⟨[], [], []⟩),
(179, ⟨[], [], []⟩),
(180, ⟨[], [], []⟩),
(181, ⟨[], [], []⟩),
(182, ⟨[], [], [(3, ⟨⟨[0, 3, 4], []⟩, [(0, ⟨[3], []⟩)], ⟨[2], []⟩⟩)]⟩),
(183, ⟨[], [], [(2, ⟨⟨[0, 1, 7, 8], []⟩, [(0, ⟨[], []⟩)], ⟨[4], []⟩⟩)]⟩)]
def fiF (f : Nat) : Fi := (look f fis).getD ⟨[], [], []⟩
noncomputable def C : Ctx := { ti := fun t => look t tis, fs := fun f => look f fns, fi := fiF }
def bodyOf (f : Func) : Code := f.body.getD .skip
def loopOf (f : Func) (k : Nat) : Code := (findLoop k (bodyOf f)).getD .skip
def cutOf (f : Func) (k : Nat) : Code := (findCut k (bodyOf f)).getD .skip
def liOf (l : List (Nat × Li)) (k : Nat) : Li := (look k l).getD ⟨⟨[], []⟩, [], ⟨[], []⟩⟩
theorem tis_ok : (tis.all fun x => tiB Tryz.prog x.1 x.2) = true := by kernel_rfl
theorem fns_all : (fns.all fun x => fnB (fiF x.1) x.2) = true := by kernel_rfl
theorem fnp (f : Nat) (x : Func) (r : List (Nat × Func)) (h : Tryz.prog.funcs[f]? = some x) (hr : ∀ y ∈ r, Tryz.prog.funcs[y.1]? = some y.2) : ∀ y ∈ (f, x) :: r, Tryz.prog.funcs[y.1]? = some y.2 := List.forall_mem_cons.2 ⟨h, hr⟩
set_option maxRecDepth 100000 in
theorem fns_prog : ∀ x ∈ fns, Tryz.prog.funcs[x.1]? = some x.2 := (fnp _ _ _ Tryz.func3
(fnp _ _ _ Tryz.func9
(fnp _ _ _ Tryz.func10
(fnp _ _ _ Tryz.func11
(fnp _ _ _ Tryz.func12
(fnp _ _ _ Tryz.func13
(fnp _ _ _ Tryz.func14
(fnp _ _ _ Tryz.func15
(fnp _ _ _ Tryz.func16
(fnp _ _ _ Tryz.func17
(fnp _ _ _ Tryz.func18
(fnp _ _ _ Tryz.func19
(fnp _ _ _ Tryz.func20
(fnp _ _ _ Tryz.func21
(fnp _ _ _ Tryz.func22
(fnp _ _ _ Tryz.func23
(fnp _ _ _ Tryz.func28
(fnp _ _ _ Tryz.func31
(fnp _ _ _ Tryz.func46
(fnp _ _ _ Tryz.func47
(fnp _ _ _ Tryz.func48
(fnp _ _ _ Tryz.func49
(fnp _ _ _ Tryz.func50
(fnp _ _ _ Tryz.func51
(fnp _ _ _ Tryz.func52
(fnp _ _ _ Tryz.func53
(fnp _ _ _ Tryz.func54
(fnp _ _ _ Tryz.func55
(fnp _ _ _ Tryz.func56
(fnp _ _ _ Tryz.func57
(fnp _ _ _ Tryz.func58
(fnp _ _ _ Tryz.func59
(fnp _ _ _ Tryz.func60
(fnp _ _ _ Tryz.func61
(fnp _ _ _ Tryz.func62
(fnp _ _ _ Tryz.func63
(fnp _ _ _ Tryz.func64
(fnp _ _ _ Tryz.func65
(fnp _ _ _ Tryz.func66
(fnp _ _ _ Tryz.func67
(fnp _ _ _ Tryz.func68
(fnp _ _ _ Tryz.func90
(fnp _ _ _ Tryz.func92
(fnp _ _ _ Tryz.func93
(fnp _ _ _ Tryz.func94
(fnp _ _ _ Tryz.func95
(fnp _ _ _ Tryz.func96
(fnp _ _ _ Tryz.func105
(fnp _ _ _ Tryz.func106
(fnp _ _ _ Tryz.func107
(fnp _ _ _ Tryz.func108
(fnp _ _ _ Tryz.func109
(fnp _ _ _ Tryz.func110
(fnp _ _ _ Tryz.func111
(fnp _ _ _ Tryz.func112
(fnp _ _ _ Tryz.func113
(fnp _ _ _ Tryz.func114
(fnp _ _ _ Tryz.func115
(fnp _ _ _ Tryz.func116
(fnp _ _ _ Tryz.func117
(fnp _ _ _ Tryz.func118
(fnp _ _ _ Tryz.func119
(fnp _ _ _ Tryz.func132
(fnp _ _ _ Tryz.func133
(fnp _ _ _ Tryz.func134
(fnp _ _ _ Tryz.func141
(fnp _ _ _ Tryz.func142
(fnp _ _ _ Tryz.func143
(fnp _ _ _ Tryz.func144
(fnp _ _ _ Tryz.func145
(fnp _ _ _ Tryz.func146
(fnp _ _ _ Tryz.func147
(fnp _ _ _ Tryz.func148
(fnp _ _ _ Tryz.func149
(fnp _ _ _ Tryz.func150
(fnp _ _ _ Tryz.func151
(fnp _ _ _ Tryz.func152
(fnp _ _ _ Tryz.func153
(fnp _ _ _ Tryz.func154
(fnp _ _ _ Tryz.func155
(fnp _ _ _ Tryz.func156
(fnp _ _ _ Tryz.func157
(fnp _ _ _ Tryz.func162
(fnp _ _ _ Tryz.func163
(fnp _ _ _ Tryz.func164
(fnp _ _ _ Tryz.func165
(fnp _ _ _ Tryz.func166
(fnp _ _ _ Tryz.func167
(fnp _ _ _ Tryz.func168
(fnp _ _ _ Tryz.func169
(fnp _ _ _ Tryz.func170
(fnp _ _ _ Tryz.func171
(fnp _ _ _ Tryz.func172
(fnp _ _ _ Tryz.func173
(fnp _ _ _ Tryz.func174
(fnp _ _ _ Tryz.func175
(fnp _ _ _ Tryz.func176
(fnp _ _ _ Tryz.func179
(fnp _ _ _ Tryz.func180
(fnp _ _ _ Tryz.func181
(fnp _ _ _ Tryz.func182
(fnp _ _ _ Tryz.func183
(fun _ h => by cases h)))))))))))))))))))))))))))))))))))))))))))))))))))))))))))))))))))))))))))))))))))))))))))))))))))))))
theorem C_ok : CtxOK Tryz.prog C := ctx_ok tis_ok fns_prog
theorem C_fns : FnsOK Tryz.prog C := Go.Vsi.fns_ok fns_all
theorem C_follows : Tryz.prog.follows .mixedOrders = true := by kernel_rfl
def D0 (n : Nat) : CallF := noC
theorem D0_ok {X0 : CallF} (hX : CallF.Mono X0) : ∀ n g a K, D0 n g a K → callM C X0 n g a K := fun n => noC_ok
end Go.Vsi
end

section
set_option linter.unusedVariables false
namespace Go.Vsi
open Go.Proofs
section
variable {X0 : CallF} (hX : CallF.Mono X0)
include hX
abbrev laws_szDecl.a : List TS := [.a [.o .str, .o (.int .i64)], .c (.o (.int .i64))]
def laws_szDecl.u (n : Nat) (v : VA laws_szDecl.a) (K : RES → Prop) : Prop := laws_szDecl.c n v.1.1 v.1.2.1 v.2.1 (fun r0 => K ⟨.c (.int .i64 r0), []⟩)
theorem laws_szDecl_ok : ∀ n v K, laws_szDecl.u n v K → callM C X0 n 46 (fillA laws_szDecl.a v) K :=
 call_tell hX (fn := Tryz.f46) (c := bodyOf Tryz.f46) (by kernel_rfl) (by kernel_rfl) (A := laws_szDecl.a) (u := laws_szDecl.u) (fun _ _ h => h) (call := D0) (lp := fun n => noL) (D0_ok hX) (fun n => noL_ok) (fun n v K => by kernel_rfl)
def D1 (n : Nat) : CallF := orC 46 laws_szDecl.a (laws_szDecl.u n) (D0 n)
theorem D1_ok : ∀ n g a K, D1 n g a K → callM C X0 n g a K := fun n => orC_ok (laws_szDecl_ok hX n) (D0_ok hX n)
abbrev laws_szDeclS.a : List TS := [.c (.o (.dat 74 (.prod .str (.int .i64)))), .c (.o (.int .i64))]
def laws_szDeclS.u (n : Nat) (v : VA laws_szDeclS.a) (K : RES → Prop) : Prop := laws_szDeclS.c n v.1 v.2.1 (fun r0 => K ⟨.c (.int .i64 r0), []⟩)
abbrev laws_szDeclS.l5.s : ST := ⟨[(0, .c (.o (.dat 74 (.prod .str (.int .i64))))), (1, .c (.o (.int .i64))), (5, .c (.o (.int .i64)))], [], [], [], []⟩
def laws_szDeclS.l5.u (n : Nat) (v : laws_szDeclS.l5.s.V) (K : X → St → Prop) : Prop := laws_szDeclS.l5 n v.1.1 v.1.2.1 v.1.2.2.1 (fun y0 => K (.exit 0) ⟨[(1, .c (.int .i64 y0))], [], [], [], []⟩) (fun y0 => K .ret ⟨[(4, .c (.int .i64 y0))], [], [], [], []⟩)
theorem laws_szDeclS.l5_ok : ∀ n v K, laws_szDeclS.l5.u n v K → loopM C X0 n 9 5 (laws_szDeclS.l5.s.fill v) K :=
 loop_tell hX (fn := Tryz.f9) (c := bodyOf Tryz.f9) (a := loopOf Tryz.f9 5) (li := liOf (C.fi 9).loops 5) (by kernel_rfl) (by kernel_rfl) (of_decide_eq_true rfl) (by kernel_rfl) (by kernel_rfl) (T := laws_szDeclS.l5.s) (u := laws_szDeclS.l5.u) (fun _ _ h => h) (call := D1) (lp := fun n => noL) (D1_ok hX) (fun n => noL_ok) (fun n v K => by kernel_rfl)
theorem laws_szDeclS_ok : ∀ n v K, laws_szDeclS.u n v K → callM C X0 n 9 (fillA laws_szDeclS.a v) K :=
 call_tell hX (fn := Tryz.f9) (c := bodyOf Tryz.f9) (by kernel_rfl) (by kernel_rfl) (A := laws_szDeclS.a) (u := laws_szDeclS.u) (fun _ _ h => h) (call := D1) (lp := fun n => orL 5 laws_szDeclS.l5.s (laws_szDeclS.l5.u n) noL) (D1_ok hX) (fun n => (orL_ok (laws_szDeclS.l5_ok hX n) noL_ok)) (fun n v K => by kernel_rfl)
def D2 (n : Nat) : CallF := orC 9 laws_szDeclS.a (laws_szDeclS.u n) (D1 n)
theorem D2_ok : ∀ n g a K, D2 n g a K → callM C X0 n g a K := fun n => orC_ok (laws_szDeclS_ok hX n) (D1_ok hX n)
abbrev laws_szUint64S.a : List TS := [.c (.o (.dat 150 (.int .u64))), .c (.o (.int .i64))]
def laws_szUint64S.u (n : Nat) (v : VA laws_szUint64S.a) (K : RES → Prop) : Prop := laws_szUint64S.c n v.1 v.2.1 (fun r0 => K ⟨.c (.int .i64 r0), []⟩)
theorem laws_szUint64S_ok : ∀ n v K, laws_szUint64S.u n v K → callM C X0 n 106 (fillA laws_szUint64S.a v) K :=
 call_tell hX (fn := Tryz.f106) (c := bodyOf Tryz.f106) (by kernel_rfl) (by kernel_rfl) (A := laws_szUint64S.a) (u := laws_szUint64S.u) (fun _ _ h => h) (call := D2) (lp := fun n => noL) (D2_ok hX) (fun n => noL_ok) (fun n v K => by kernel_rfl)
def D3 (n : Nat) : CallF := orC 106 laws_szUint64S.a (laws_szUint64S.u n) (D2 n)
theorem D3_ok : ∀ n g a K, D3 n g a K → callM C X0 n g a K := fun n => orC_ok (laws_szUint64S_ok hX n) (D2_ok hX n)
abbrev laws_szBits.a : List TS := [.a [.o (.int .i64), .o (.dat 150 (.int .u64))], .c (.o (.int .i64))]
def laws_szBits.u (n : Nat) (v : VA laws_szBits.a) (K : RES → Prop) : Prop := laws_szBits.c n v.1.1 v.1.2.1 v.2.1 (fun r0 => K ⟨.c (.int .i64 r0), []⟩)
theorem laws_szBits_ok : ∀ n v K, laws_szBits.u n v K → callM C X0 n 48 (fillA laws_szBits.a v) K :=
 call_tell hX (fn := Tryz.f48) (c := bodyOf Tryz.f48) (by kernel_rfl) (by kernel_rfl) (A := laws_szBits.a) (u := laws_szBits.u) (fun _ _ h => h) (call := D3) (lp := fun n => noL) (D3_ok hX) (fun n => noL_ok) (fun n v K => by kernel_rfl)
def D4 (n : Nat) : CallF := orC 48 laws_szBits.a (laws_szBits.u n) (D3 n)
theorem D4_ok : ∀ n g a K, D4 n g a K → callM C X0 n g a K := fun n => orC_ok (laws_szBits_ok hX n) (D3_ok hX n)
abbrev laws_szInt64S.a : List TS := [.c (.o (.dat 2 (.int .i64))), .c (.o (.int .i64))]
def laws_szInt64S.u (n : Nat) (v : VA laws_szInt64S.a) (K : RES → Prop) : Prop := laws_szInt64S.c n v.1 v.2.1 (fun r0 => K ⟨.c (.int .i64 r0), []⟩)
theorem laws_szInt64S_ok : ∀ n v K, laws_szInt64S.u n v K → callM C X0 n 179 (fillA laws_szInt64S.a v) K :=
 call_tell hX (fn := Tryz.f179) (c := bodyOf Tryz.f179) (by kernel_rfl) (by kernel_rfl) (A := laws_szInt64S.a) (u := laws_szInt64S.u) (fun _ _ h => h) (call := D4) (lp := fun n => noL) (D4_ok hX) (fun n => noL_ok) (fun n v K => by kernel_rfl)
def D5 (n : Nat) : CallF := orC 179 laws_szInt64S.a (laws_szInt64S.u n) (D4 n)
theorem D5_ok : ∀ n g a K, D5 n g a K → callM C X0 n g a K := fun n => orC_ok (laws_szInt64S_ok hX n) (D4_ok hX n)
abbrev laws_szTNode.a : List TS := [.a [.o (.int .i64), .o (.int .i64), .o (.int .i64), .o (.int .i64), .o (.int .i64), .o (.dat 150 (.int .u64)), .o (.dat 2 (.int .i64))], .c (.o (.int .i64))]
def laws_szTNode.u (n : Nat) (v : VA laws_szTNode.a) (K : RES → Prop) : Prop := laws_szTNode.c n v.1.1 v.1.2.1 v.1.2.2.1 v.1.2.2.2.1 v.1.2.2.2.2.1 v.1.2.2.2.2.2.1 v.1.2.2.2.2.2.2.1 v.2.1 (fun r0 => K ⟨.c (.int .i64 r0), []⟩)
theorem laws_szTNode_ok : ∀ n v K, laws_szTNode.u n v K → callM C X0 n 164 (fillA laws_szTNode.a v) K :=
 call_tell hX (fn := Tryz.f164) (c := bodyOf Tryz.f164) (by kernel_rfl) (by kernel_rfl) (A := laws_szTNode.a) (u := laws_szTNode.u) (fun _ _ h => h) (call := D5) (lp := fun n => noL) (D5_ok hX) (fun n => noL_ok) (fun n v K => by kernel_rfl)
def D6 (n : Nat) : CallF := orC 164 laws_szTNode.a (laws_szTNode.u n) (D5 n)
theorem D6_ok : ∀ n g a K, D6 n g a K → callM C X0 n g a K := fun n => orC_ok (laws_szTNode_ok hX n) (D5_ok hX n)
abbrev laws_szTNodeS.a : List TS := [.c (.o (.dat 192 (.prod (.int .i64) (.prod (.int .i64) (.prod (.int .i64) (.prod (.int .i64) (.prod (.int .i64) (.prod (.sl 150 (.int .u64)) (.sl 2 (.int .i64)))))))))), .c (.o (.int .i64))]
def laws_szTNodeS.u (n : Nat) (v : VA laws_szTNodeS.a) (K : RES → Prop) : Prop := laws_szTNodeS.c n v.1 v.2.1 (fun r0 => K ⟨.c (.int .i64 r0), []⟩)
abbrev laws_szTNodeS.l5.s : ST := ⟨[(0, .c (.o (.dat 192 (.prod (.int .i64) (.prod (.int .i64) (.prod (.int .i64) (.prod (.int .i64) (.prod (.int .i64) (.prod (.sl 150 (.int .u64)) (.sl 2 (.int .i64))))))))))), (1, .c (.o (.int .i64))), (5, .c (.o (.int .i64)))], [], [], [], []⟩
def laws_szTNodeS.l5.u (n : Nat) (v : laws_szTNodeS.l5.s.V) (K : X → St → Prop) : Prop := laws_szTNodeS.l5 n v.1.1 v.1.2.1 v.1.2.2.1 (fun y0 => K (.exit 0) ⟨[(1, .c (.int .i64 y0))], [], [], [], []⟩) (fun y0 => K .ret ⟨[(4, .c (.int .i64 y0))], [], [], [], []⟩)
theorem laws_szTNodeS.l5_ok : ∀ n v K, laws_szTNodeS.l5.u n v K → loopM C X0 n 141 5 (laws_szTNodeS.l5.s.fill v) K :=
 loop_tell hX (fn := Tryz.f141) (c := bodyOf Tryz.f141) (a := loopOf Tryz.f141 5) (li := liOf (C.fi 141).loops 5) (by kernel_rfl) (by kernel_rfl) (of_decide_eq_true rfl) (by kernel_rfl) (by kernel_rfl) (T := laws_szTNodeS.l5.s) (u := laws_szTNodeS.l5.u) (fun _ _ h => h) (call := D6) (lp := fun n => noL) (D6_ok hX) (fun n => noL_ok) (fun n v K => by kernel_rfl)
theorem laws_szTNodeS_ok : ∀ n v K, laws_szTNodeS.u n v K → callM C X0 n 141 (fillA laws_szTNodeS.a v) K :=
 call_tell hX (fn := Tryz.f141) (c := bodyOf Tryz.f141) (by kernel_rfl) (by kernel_rfl) (A := laws_szTNodeS.a) (u := laws_szTNodeS.u) (fun _ _ h => h) (call := D6) (lp := fun n => orL 5 laws_szTNodeS.l5.s (laws_szTNodeS.l5.u n) noL) (D6_ok hX) (fun n => (orL_ok (laws_szTNodeS.l5_ok hX n) noL_ok)) (fun n v K => by kernel_rfl)
def D7 (n : Nat) : CallF := orC 141 laws_szTNodeS.a (laws_szTNodeS.u n) (D6 n)
theorem D7_ok : ∀ n g a K, D7 n g a K → callM C X0 n g a K := fun n => orC_ok (laws_szTNodeS_ok hX n) (D6_ok hX n)
abbrev laws_szTerm.a : List TS := [.a [.o (.dat 192 (.prod (.int .i64) (.prod (.int .i64) (.prod (.int .i64) (.prod (.int .i64) (.prod (.int .i64) (.prod (.sl 150 (.int .u64)) (.sl 2 (.int .i64)))))))))], .c (.o (.int .i64))]
def laws_szTerm.u (n : Nat) (v : VA laws_szTerm.a) (K : RES → Prop) : Prop := laws_szTerm.c n v.1.1 v.2.1 (fun r0 => K ⟨.c (.int .i64 r0), []⟩)
theorem laws_szTerm_ok : ∀ n v K, laws_szTerm.u n v K → callM C X0 n 105 (fillA laws_szTerm.a v) K :=
 call_tell hX (fn := Tryz.f105) (c := bodyOf Tryz.f105) (by kernel_rfl) (by kernel_rfl) (A := laws_szTerm.a) (u := laws_szTerm.u) (fun _ _ h => h) (call := D7) (lp := fun n => noL) (D7_ok hX) (fun n => noL_ok) (fun n v K => by kernel_rfl)
def D8 (n : Nat) : CallF := orC 105 laws_szTerm.a (laws_szTerm.u n) (D7 n)
theorem D8_ok : ∀ n g a K, D8 n g a K → callM C X0 n g a K := fun n => orC_ok (laws_szTerm_ok hX n) (D7_ok hX n)
abbrev laws_toDecl.a : List TS := [.a [.o .str, .o (.int .i64)]]
def laws_toDecl.u (n : Nat) (v : VA laws_toDecl.a) (K : RES → Prop) : Prop := laws_toDecl.c n v.1.1 v.1.2.1 (fun r0 r1 => K ⟨.agg [.str r0, .int .i64 r1], []⟩)
theorem laws_toDecl_ok : ∀ n v K, laws_toDecl.u n v K → callM C X0 n 53 (fillA laws_toDecl.a v) K :=
 call_tell hX (fn := Tryz.f53) (c := bodyOf Tryz.f53) (by kernel_rfl) (by kernel_rfl) (A := laws_toDecl.a) (u := laws_toDecl.u) (fun _ _ h => h) (call := D8) (lp := fun n => noL) (D8_ok hX) (fun n => noL_ok) (fun n v K => by kernel_rfl)
def D9 (n : Nat) : CallF := orC 53 laws_toDecl.a (laws_toDecl.u n) (D8 n)
theorem D9_ok : ∀ n g a K, D9 n g a K → callM C X0 n g a K := fun n => orC_ok (laws_toDecl_ok hX n) (D8_ok hX n)
abbrev laws_toDeclS.a : List TS := [.c (.o (.dat 74 (.prod .str (.int .i64))))]
def laws_toDeclS.u (n : Nat) (v : VA laws_toDeclS.a) (K : RES → Prop) : Prop := laws_toDeclS.c n v.1 (fun r0 => K ⟨.c (.row ⟨95, .prod .str (.int .i64), r0, 99, none⟩), []⟩)
abbrev laws_toDeclS.l3.s : ST := ⟨[(0, .c (.o (.dat 74 (.prod .str (.int .i64))))), (3, .c (.o (.own 224))), (4, .c (.o (.int .i64)))], [⟨224, 95, .prod .str (.int .i64), 99⟩], [], [], []⟩
def laws_toDeclS.l3.u (n : Nat) (v : laws_toDeclS.l3.s.V) (K : X → St → Prop) : Prop := laws_toDeclS.l3 n v.1.1 v.1.2.2.1 v.2.1.1 (fun y0 => K (.exit 0) ⟨[(3, .c (.own 224))], [(224, ⟨95, .prod .str (.int .i64), y0, 99, none⟩)], [], [], []⟩)
theorem laws_toDeclS.l3_ok : ∀ n v K, laws_toDeclS.l3.u n v K → loopM C X0 n 13 3 (laws_toDeclS.l3.s.fill v) K :=
 loop_tell hX (fn := Tryz.f13) (c := bodyOf Tryz.f13) (a := loopOf Tryz.f13 3) (li := liOf (C.fi 13).loops 3) (by kernel_rfl) (by kernel_rfl) (of_decide_eq_true rfl) (by kernel_rfl) (by kernel_rfl) (T := laws_toDeclS.l3.s) (u := laws_toDeclS.l3.u) (fun _ _ h => h) (call := D9) (lp := fun n => noL) (D9_ok hX) (fun n => noL_ok) (fun n v K => by kernel_rfl)
theorem laws_toDeclS_ok : ∀ n v K, laws_toDeclS.u n v K → callM C X0 n 13 (fillA laws_toDeclS.a v) K :=
 call_tell hX (fn := Tryz.f13) (c := bodyOf Tryz.f13) (by kernel_rfl) (by kernel_rfl) (A := laws_toDeclS.a) (u := laws_toDeclS.u) (fun _ _ h => h) (call := D9) (lp := fun n => orL 3 laws_toDeclS.l3.s (laws_toDeclS.l3.u n) noL) (D9_ok hX) (fun n => (orL_ok (laws_toDeclS.l3_ok hX n) noL_ok)) (fun n v K => by kernel_rfl)
def D10 (n : Nat) : CallF := orC 13 laws_toDeclS.a (laws_toDeclS.u n) (D9 n)
theorem D10_ok : ∀ n g a K, D10 n g a K → callM C X0 n g a K := fun n => orC_ok (laws_toDeclS_ok hX n) (D9_ok hX n)
abbrev laws_toUint64S.a : List TS := [.c (.o (.dat 150 (.int .u64)))]
def laws_toUint64S.u (n : Nat) (v : VA laws_toUint64S.a) (K : RES → Prop) : Prop := laws_toUint64S.c n v.1 (fun r0 => K ⟨.c (.row ⟨150, .int .u64, r0, 99, none⟩), []⟩)
abbrev laws_toUint64S.l3.s : ST := ⟨[(0, .c (.o (.dat 150 (.int .u64)))), (3, .c (.o (.own 224))), (4, .c (.o (.int .i64)))], [⟨224, 150, .int .u64, 99⟩], [], [], []⟩
def laws_toUint64S.l3.u (n : Nat) (v : laws_toUint64S.l3.s.V) (K : X → St → Prop) : Prop := laws_toUint64S.l3 n v.1.1 v.1.2.2.1 v.2.1.1 (fun y0 => K (.exit 0) ⟨[(3, .c (.own 224))], [(224, ⟨150, .int .u64, y0, 99, none⟩)], [], [], []⟩)
theorem laws_toUint64S.l3_ok : ∀ n v K, laws_toUint64S.l3.u n v K → loopM C X0 n 111 3 (laws_toUint64S.l3.s.fill v) K :=
 loop_tell hX (fn := Tryz.f111) (c := bodyOf Tryz.f111) (a := loopOf Tryz.f111 3) (li := liOf (C.fi 111).loops 3) (by kernel_rfl) (by kernel_rfl) (of_decide_eq_true rfl) (by kernel_rfl) (by kernel_rfl) (T := laws_toUint64S.l3.s) (u := laws_toUint64S.l3.u) (fun _ _ h => h) (call := D10) (lp := fun n => noL) (D10_ok hX) (fun n => noL_ok) (fun n v K => by kernel_rfl)
theorem laws_toUint64S_ok : ∀ n v K, laws_toUint64S.u n v K → callM C X0 n 111 (fillA laws_toUint64S.a v) K :=
 call_tell hX (fn := Tryz.f111) (c := bodyOf Tryz.f111) (by kernel_rfl) (by kernel_rfl) (A := laws_toUint64S.a) (u := laws_toUint64S.u) (fun _ _ h => h) (call := D10) (lp := fun n => orL 3 laws_toUint64S.l3.s (laws_toUint64S.l3.u n) noL) (D10_ok hX) (fun n => (orL_ok (laws_toUint64S.l3_ok hX n) noL_ok)) (fun n v K => by kernel_rfl)
def D11 (n : Nat) : CallF := orC 111 laws_toUint64S.a (laws_toUint64S.u n) (D10 n)
theorem D11_ok : ∀ n g a K, D11 n g a K → callM C X0 n g a K := fun n => orC_ok (laws_toUint64S_ok hX n) (D10_ok hX n)
abbrev laws_toBits.a : List TS := [.a [.o (.int .i64), .o (.dat 150 (.int .u64))]]
def laws_toBits.u (n : Nat) (v : VA laws_toBits.a) (K : RES → Prop) : Prop := laws_toBits.c n v.1.1 v.1.2.1 (fun r0 r1 => K ⟨.agg [.int .i64 r0, .row ⟨150, .int .u64, r1, 99, none⟩], []⟩)
theorem laws_toBits_ok : ∀ n v K, laws_toBits.u n v K → callM C X0 n 55 (fillA laws_toBits.a v) K :=
 call_tell hX (fn := Tryz.f55) (c := bodyOf Tryz.f55) (by kernel_rfl) (by kernel_rfl) (A := laws_toBits.a) (u := laws_toBits.u) (fun _ _ h => h) (call := D11) (lp := fun n => noL) (D11_ok hX) (fun n => noL_ok) (fun n v K => by kernel_rfl)
def D12 (n : Nat) : CallF := orC 55 laws_toBits.a (laws_toBits.u n) (D11 n)
theorem D12_ok : ∀ n g a K, D12 n g a K → callM C X0 n g a K := fun n => orC_ok (laws_toBits_ok hX n) (D11_ok hX n)
abbrev laws_toInt64S.a : List TS := [.c (.o (.dat 2 (.int .i64)))]
def laws_toInt64S.u (n : Nat) (v : VA laws_toInt64S.a) (K : RES → Prop) : Prop := laws_toInt64S.c n v.1 (fun r0 => K ⟨.c (.row ⟨2, .int .i64, r0, 99, none⟩), []⟩)
abbrev laws_toInt64S.l3.s : ST := ⟨[(0, .c (.o (.dat 2 (.int .i64)))), (3, .c (.o (.own 224))), (4, .c (.o (.int .i64)))], [⟨224, 2, .int .i64, 99⟩], [], [], []⟩
def laws_toInt64S.l3.u (n : Nat) (v : laws_toInt64S.l3.s.V) (K : X → St → Prop) : Prop := laws_toInt64S.l3 n v.1.1 v.1.2.2.1 v.2.1.1 (fun y0 => K (.exit 0) ⟨[(3, .c (.own 224))], [(224, ⟨2, .int .i64, y0, 99, none⟩)], [], [], []⟩)
theorem laws_toInt64S.l3_ok : ∀ n v K, laws_toInt64S.l3.u n v K → loopM C X0 n 182 3 (laws_toInt64S.l3.s.fill v) K :=
 loop_tell hX (fn := Tryz.f182) (c := bodyOf Tryz.f182) (a := loopOf Tryz.f182 3) (li := liOf (C.fi 182).loops 3) (by kernel_rfl) (by kernel_rfl) (of_decide_eq_true rfl) (by kernel_rfl) (by kernel_rfl) (T := laws_toInt64S.l3.s) (u := laws_toInt64S.l3.u) (fun _ _ h => h) (call := D12) (lp := fun n => noL) (D12_ok hX) (fun n => noL_ok) (fun n v K => by kernel_rfl)
theorem laws_toInt64S_ok : ∀ n v K, laws_toInt64S.u n v K → callM C X0 n 182 (fillA laws_toInt64S.a v) K :=
 call_tell hX (fn := Tryz.f182) (c := bodyOf Tryz.f182) (by kernel_rfl) (by kernel_rfl) (A := laws_toInt64S.a) (u := laws_toInt64S.u) (fun _ _ h => h) (call := D12) (lp := fun n => orL 3 laws_toInt64S.l3.s (laws_toInt64S.l3.u n) noL) (D12_ok hX) (fun n => (orL_ok (laws_toInt64S.l3_ok hX n) noL_ok)) (fun n v K => by kernel_rfl)
def D13 (n : Nat) : CallF := orC 182 laws_toInt64S.a (laws_toInt64S.u n) (D12 n)
theorem D13_ok : ∀ n g a K, D13 n g a K → callM C X0 n g a K := fun n => orC_ok (laws_toInt64S_ok hX n) (D12_ok hX n)
abbrev laws_toTNode.a : List TS := [.a [.o (.int .i64), .o (.int .i64), .o (.int .i64), .o (.int .i64), .o (.int .i64), .o (.dat 150 (.int .u64)), .o (.dat 2 (.int .i64))]]
def laws_toTNode.u (n : Nat) (v : VA laws_toTNode.a) (K : RES → Prop) : Prop := laws_toTNode.c n v.1.1 v.1.2.1 v.1.2.2.1 v.1.2.2.2.1 v.1.2.2.2.2.1 v.1.2.2.2.2.2.1 v.1.2.2.2.2.2.2.1 (fun r0 r1 r2 r3 r4 r5 r6 => K ⟨.agg [.int .i64 r0, .int .i64 r1, .int .i64 r2, .int .i64 r3, .int .i64 r4, .row ⟨150, .int .u64, r5, 99, none⟩, .row ⟨2, .int .i64, r6, 99, none⟩], []⟩)
theorem laws_toTNode_ok : ∀ n v K, laws_toTNode.u n v K → callM C X0 n 168 (fillA laws_toTNode.a v) K :=
 call_tell hX (fn := Tryz.f168) (c := bodyOf Tryz.f168) (by kernel_rfl) (by kernel_rfl) (A := laws_toTNode.a) (u := laws_toTNode.u) (fun _ _ h => h) (call := D13) (lp := fun n => noL) (D13_ok hX) (fun n => noL_ok) (fun n v K => by kernel_rfl)
def D14 (n : Nat) : CallF := orC 168 laws_toTNode.a (laws_toTNode.u n) (D13 n)
theorem D14_ok : ∀ n g a K, D14 n g a K → callM C X0 n g a K := fun n => orC_ok (laws_toTNode_ok hX n) (D13_ok hX n)
abbrev laws_toTNodeS.a : List TS := [.c (.o (.dat 192 (.prod (.int .i64) (.prod (.int .i64) (.prod (.int .i64) (.prod (.int .i64) (.prod (.int .i64) (.prod (.sl 150 (.int .u64)) (.sl 2 (.int .i64))))))))))]
def laws_toTNodeS.u (n : Nat) (v : VA laws_toTNodeS.a) (K : RES → Prop) : Prop := laws_toTNodeS.c n v.1 (fun r0 => K ⟨.c (.row ⟨145, .prod (.int .i64) (.prod (.int .i64) (.prod (.int .i64) (.prod (.int .i64) (.prod (.int .i64) (.prod (.sl 150 (.int .u64)) (.sl 2 (.int .i64))))))), r0, 99, none⟩), []⟩)
abbrev laws_toTNodeS.l3.s : ST := ⟨[(0, .c (.o (.dat 192 (.prod (.int .i64) (.prod (.int .i64) (.prod (.int .i64) (.prod (.int .i64) (.prod (.int .i64) (.prod (.sl 150 (.int .u64)) (.sl 2 (.int .i64))))))))))), (3, .c (.o (.own 224))), (4, .c (.o (.int .i64)))], [⟨224, 145, .prod (.int .i64) (.prod (.int .i64) (.prod (.int .i64) (.prod (.int .i64) (.prod (.int .i64) (.prod (.sl 150 (.int .u64)) (.sl 2 (.int .i64))))))), 99⟩], [], [], []⟩
def laws_toTNodeS.l3.u (n : Nat) (v : laws_toTNodeS.l3.s.V) (K : X → St → Prop) : Prop := laws_toTNodeS.l3 n v.1.1 v.1.2.2.1 v.2.1.1 (fun y0 => K (.exit 0) ⟨[(3, .c (.own 224))], [(224, ⟨145, .prod (.int .i64) (.prod (.int .i64) (.prod (.int .i64) (.prod (.int .i64) (.prod (.int .i64) (.prod (.sl 150 (.int .u64)) (.sl 2 (.int .i64))))))), y0, 99, none⟩)], [], [], []⟩)
theorem laws_toTNodeS.l3_ok : ∀ n v K, laws_toTNodeS.l3.u n v K → loopM C X0 n 149 3 (laws_toTNodeS.l3.s.fill v) K :=
 loop_tell hX (fn := Tryz.f149) (c := bodyOf Tryz.f149) (a := loopOf Tryz.f149 3) (li := liOf (C.fi 149).loops 3) (by kernel_rfl) (by kernel_rfl) (of_decide_eq_true rfl) (by kernel_rfl) (by kernel_rfl) (T := laws_toTNodeS.l3.s) (u := laws_toTNodeS.l3.u) (fun _ _ h => h) (call := D14) (lp := fun n => noL) (D14_ok hX) (fun n => noL_ok) (fun n v K => by kernel_rfl)
theorem laws_toTNodeS_ok : ∀ n v K, laws_toTNodeS.u n v K → callM C X0 n 149 (fillA laws_toTNodeS.a v) K :=
 call_tell hX (fn := Tryz.f149) (c := bodyOf Tryz.f149) (by kernel_rfl) (by kernel_rfl) (A := laws_toTNodeS.a) (u := laws_toTNodeS.u) (fun _ _ h => h) (call := D14) (lp := fun n => orL 3 laws_toTNodeS.l3.s (laws_toTNodeS.l3.u n) noL) (D14_ok hX) (fun n => (orL_ok (laws_toTNodeS.l3_ok hX n) noL_ok)) (fun n v K => by kernel_rfl)
def D15 (n : Nat) : CallF := orC 149 laws_toTNodeS.a (laws_toTNodeS.u n) (D14 n)
theorem D15_ok : ∀ n g a K, D15 n g a K → callM C X0 n g a K := fun n => orC_ok (laws_toTNodeS_ok hX n) (D14_ok hX n)
abbrev laws_toTerm.a : List TS := [.a [.o (.dat 192 (.prod (.int .i64) (.prod (.int .i64) (.prod (.int .i64) (.prod (.int .i64) (.prod (.int .i64) (.prod (.sl 150 (.int .u64)) (.sl 2 (.int .i64)))))))))]]
def laws_toTerm.u (n : Nat) (v : VA laws_toTerm.a) (K : RES → Prop) : Prop := laws_toTerm.c n v.1.1 (fun r0 => K ⟨.agg [.row ⟨145, .prod (.int .i64) (.prod (.int .i64) (.prod (.int .i64) (.prod (.int .i64) (.prod (.int .i64) (.prod (.sl 150 (.int .u64)) (.sl 2 (.int .i64))))))), r0, 99, none⟩], []⟩)
theorem laws_toTerm_ok : ∀ n v K, laws_toTerm.u n v K → callM C X0 n 110 (fillA laws_toTerm.a v) K :=
 call_tell hX (fn := Tryz.f110) (c := bodyOf Tryz.f110) (by kernel_rfl) (by kernel_rfl) (A := laws_toTerm.a) (u := laws_toTerm.u) (fun _ _ h => h) (call := D15) (lp := fun n => noL) (D15_ok hX) (fun n => noL_ok) (fun n v K => by kernel_rfl)
def D16 (n : Nat) : CallF := orC 110 laws_toTerm.a (laws_toTerm.u n) (D15 n)
theorem D16_ok : ∀ n g a K, D16 n g a K → callM C X0 n g a K := fun n => orC_ok (laws_toTerm_ok hX n) (D15_ok hX n)
abbrev spec_l1Digit.a : List TS := [.c (.o (.int .u8))]
def spec_l1Digit.u (n : Nat) (v : VA spec_l1Digit.a) (K : RES → Prop) : Prop := spec_l1Digit.c n v.1 (fun r0 => K ⟨.c (.bool r0), []⟩)
theorem spec_l1Digit_ok : ∀ n v K, spec_l1Digit.u n v K → callM C X0 n 132 (fillA spec_l1Digit.a v) K :=
 call_tell hX (fn := Tryz.f132) (c := bodyOf Tryz.f132) (by kernel_rfl) (by kernel_rfl) (A := spec_l1Digit.a) (u := spec_l1Digit.u) (fun _ _ h => h) (call := D16) (lp := fun n => noL) (D16_ok hX) (fun n => noL_ok) (fun n v K => by kernel_rfl)
def D17 (n : Nat) : CallF := orC 132 spec_l1Digit.a (spec_l1Digit.u n) (D16 n)
theorem D17_ok : ∀ n g a K, D17 n g a K → callM C X0 n g a K := fun n => orC_ok (spec_l1Digit_ok hX n) (D16_ok hX n)
abbrev spec_l1Name.a : List TS := [.c (.o .str)]
def spec_l1Name.u (n : Nat) (v : VA spec_l1Name.a) (K : RES → Prop) : Prop := spec_l1Name.c n v.1 (fun r0 => K ⟨.c (.bool r0), []⟩)
abbrev spec_l1Name.l4.s : ST := ⟨[(0, .c (.o .str)), (3, .c (.o (.int .i64)))], [], [], [], []⟩
def spec_l1Name.l4.u (n : Nat) (v : spec_l1Name.l4.s.V) (K : X → St → Prop) : Prop := spec_l1Name.l4 n v.1.1 v.1.2.1 (K (.exit 0) ⟨[], [], [], [], []⟩) (fun y0 => K .ret ⟨[(2, .c (.bool y0))], [], [], [], []⟩)
theorem spec_l1Name.l4_ok : ∀ n v K, spec_l1Name.l4.u n v K → loopM C X0 n 90 4 (spec_l1Name.l4.s.fill v) K :=
 loop_tell hX (fn := Tryz.f90) (c := bodyOf Tryz.f90) (a := loopOf Tryz.f90 4) (li := liOf (C.fi 90).loops 4) (by kernel_rfl) (by kernel_rfl) (of_decide_eq_true rfl) (by kernel_rfl) (by kernel_rfl) (T := spec_l1Name.l4.s) (u := spec_l1Name.l4.u) (fun _ _ h => h) (call := D17) (lp := fun n => noL) (D17_ok hX) (fun n => noL_ok) (fun n v K => by kernel_rfl)
theorem spec_l1Name_ok : ∀ n v K, spec_l1Name.u n v K → callM C X0 n 90 (fillA spec_l1Name.a v) K :=
 call_tell hX (fn := Tryz.f90) (c := bodyOf Tryz.f90) (by kernel_rfl) (by kernel_rfl) (A := spec_l1Name.a) (u := spec_l1Name.u) (fun _ _ h => h) (call := D17) (lp := fun n => orL 4 spec_l1Name.l4.s (spec_l1Name.l4.u n) noL) (D17_ok hX) (fun n => (orL_ok (spec_l1Name.l4_ok hX n) noL_ok)) (fun n v K => by kernel_rfl)
def D18 (n : Nat) : CallF := orC 90 spec_l1Name.a (spec_l1Name.u n) (D17 n)
theorem D18_ok : ∀ n g a K, D18 n g a K → callM C X0 n g a K := fun n => orC_ok (spec_l1Name_ok hX n) (D17_ok hX n)
abbrev spec_l1In.a : List TS := [.c (.o (.int .i64)), .c (.o (.int .i64)), .c (.o (.int .i64))]
def spec_l1In.u (n : Nat) (v : VA spec_l1In.a) (K : RES → Prop) : Prop := spec_l1In.c n v.1 v.2.1 v.2.2.1 (fun r0 => K ⟨.c (.bool r0), []⟩)
theorem spec_l1In_ok : ∀ n v K, spec_l1In.u n v K → callM C X0 n 92 (fillA spec_l1In.a v) K :=
 call_tell hX (fn := Tryz.f92) (c := bodyOf Tryz.f92) (by kernel_rfl) (by kernel_rfl) (A := spec_l1In.a) (u := spec_l1In.u) (fun _ _ h => h) (call := D18) (lp := fun n => noL) (D18_ok hX) (fun n => noL_ok) (fun n v K => by kernel_rfl)
def D19 (n : Nat) : CallF := orC 92 spec_l1In.a (spec_l1In.u n) (D18 n)
theorem D19_ok : ∀ n g a K, D19 n g a K → callM C X0 n g a K := fun n => orC_ok (spec_l1In_ok hX n) (D18_ok hX n)
abbrev spec_DeclsOk.a : List TS := [.c (.o (.dat 95 (.prod .str (.int .i64))))]
def spec_DeclsOk.u (n : Nat) (v : VA spec_DeclsOk.a) (K : RES → Prop) : Prop := spec_DeclsOk.c n v.1 (fun r0 => K ⟨.c (.bool r0), []⟩)
abbrev spec_DeclsOk.l10.s : ST := ⟨[(0, .c (.o (.dat 95 (.prod .str (.int .i64))))), (3, .c (.o (.int .i64))), (4, .c (.o (.int .i64))), (5, .c (.o (.int .i64)))], [], [], [], []⟩
def spec_DeclsOk.l10.u (n : Nat) (v : spec_DeclsOk.l10.s.V) (K : X → St → Prop) : Prop := spec_DeclsOk.l10 n v.1.1 v.1.2.1 v.1.2.2.1 v.1.2.2.2.1 (fun y0 y1 y2 => K (.exit 2) ⟨[(0, .c (.dat 95 (.prod .str (.int .i64)) y0)), (3, .c (.int .i64 y1)), (4, .c (.int .i64 y2))], [], [], [], []⟩) (fun y0 => K .ret ⟨[(2, .c (.bool y0))], [], [], [], []⟩)
abbrev spec_DeclsOk.l5.s : ST := ⟨[(0, .c (.o (.dat 95 (.prod .str (.int .i64))))), (3, .c (.o (.int .i64))), (4, .c (.o (.int .i64)))], [], [], [], []⟩
def spec_DeclsOk.l5.u (n : Nat) (v : spec_DeclsOk.l5.s.V) (K : X → St → Prop) : Prop := spec_DeclsOk.l5 n v.1.1 v.1.2.1 v.1.2.2.1 (fun y0 => K (.exit 0) ⟨[(3, .c (.int .i64 y0))], [], [], [], []⟩) (fun y0 => K .ret ⟨[(2, .c (.bool y0))], [], [], [], []⟩)
theorem spec_DeclsOk.l10_ok : ∀ n v K, spec_DeclsOk.l10.u n v K → loopM C X0 n 93 10 (spec_DeclsOk.l10.s.fill v) K :=
 loop_tell hX (fn := Tryz.f93) (c := bodyOf Tryz.f93) (a := loopOf Tryz.f93 10) (li := liOf (C.fi 93).loops 10) (by kernel_rfl) (by kernel_rfl) (of_decide_eq_true rfl) (by kernel_rfl) (by kernel_rfl) (T := spec_DeclsOk.l10.s) (u := spec_DeclsOk.l10.u) (fun _ _ h => h) (call := D19) (lp := fun n => noL) (D19_ok hX) (fun n => noL_ok) (fun n v K => by kernel_rfl)
theorem spec_DeclsOk.l5_ok : ∀ n v K, spec_DeclsOk.l5.u n v K → loopM C X0 n 93 5 (spec_DeclsOk.l5.s.fill v) K :=
 loop_tell hX (fn := Tryz.f93) (c := bodyOf Tryz.f93) (a := loopOf Tryz.f93 5) (li := liOf (C.fi 93).loops 5) (by kernel_rfl) (by kernel_rfl) (of_decide_eq_true rfl) (by kernel_rfl) (by kernel_rfl) (T := spec_DeclsOk.l5.s) (u := spec_DeclsOk.l5.u) (fun _ _ h => h) (call := D19) (lp := fun n => orL 10 spec_DeclsOk.l10.s (spec_DeclsOk.l10.u n) noL) (D19_ok hX) (fun n => (orL_ok (spec_DeclsOk.l10_ok hX n) noL_ok)) (fun n v K => by kernel_rfl)
theorem spec_DeclsOk_ok : ∀ n v K, spec_DeclsOk.u n v K → callM C X0 n 93 (fillA spec_DeclsOk.a v) K :=
 call_tell hX (fn := Tryz.f93) (c := bodyOf Tryz.f93) (by kernel_rfl) (by kernel_rfl) (A := spec_DeclsOk.a) (u := spec_DeclsOk.u) (fun _ _ h => h) (call := D19) (lp := fun n => orL 5 spec_DeclsOk.l5.s (spec_DeclsOk.l5.u n) noL) (D19_ok hX) (fun n => (orL_ok (spec_DeclsOk.l5_ok hX n) noL_ok)) (fun n v K => by kernel_rfl)
def D20 (n : Nat) : CallF := orC 93 spec_DeclsOk.a (spec_DeclsOk.u n) (D19 n)
theorem D20_ok : ∀ n g a K, D20 n g a K → callM C X0 n g a K := fun n => orC_ok (spec_DeclsOk_ok hX n) (D19_ok hX n)
abbrev spec_l3NoBits.a : List TS := [.a [.o (.int .i64), .o (.dat 150 (.int .u64))]]
def spec_l3NoBits.u (n : Nat) (v : VA spec_l3NoBits.a) (K : RES → Prop) : Prop := spec_l3NoBits.c n v.1.1 v.1.2.1 (fun r0 => K ⟨.c (.bool r0), []⟩)
theorem spec_l3NoBits_ok : ∀ n v K, spec_l3NoBits.u n v K → callM C X0 n 180 (fillA spec_l3NoBits.a v) K :=
 call_tell hX (fn := Tryz.f180) (c := bodyOf Tryz.f180) (by kernel_rfl) (by kernel_rfl) (A := spec_l3NoBits.a) (u := spec_l3NoBits.u) (fun _ _ h => h) (call := D20) (lp := fun n => noL) (D20_ok hX) (fun n => noL_ok) (fun n v K => by kernel_rfl)
def D21 (n : Nat) : CallF := orC 180 spec_l3NoBits.a (spec_l3NoBits.u n) (D20 n)
theorem D21_ok : ∀ n g a K, D21 n g a K → callM C X0 n g a K := fun n => orC_ok (spec_l3NoBits_ok hX n) (D20_ok hX n)
abbrev spec_l3One.a : List TS := [.c (.o (.int .i64))]
def spec_l3One.u (n : Nat) (v : VA spec_l3One.a) (K : RES → Prop) : Prop := spec_l3One.c n v.1 (fun r0 => K ⟨.c (.bool r0), []⟩)
theorem spec_l3One_ok : ∀ n v K, spec_l3One.u n v K → callM C X0 n 181 (fillA spec_l3One.a v) K :=
 call_tell hX (fn := Tryz.f181) (c := bodyOf Tryz.f181) (by kernel_rfl) (by kernel_rfl) (A := spec_l3One.a) (u := spec_l3One.u) (fun _ _ h => h) (call := D21) (lp := fun n => noL) (D21_ok hX) (fun n => noL_ok) (fun n v K => by kernel_rfl)
def D22 (n : Nat) : CallF := orC 181 spec_l3One.a (spec_l3One.u n) (D21 n)
theorem D22_ok : ∀ n g a K, D22 n g a K → callM C X0 n g a K := fun n => orC_ok (spec_l3One_ok hX n) (D21_ok hX n)
abbrev spec_l1Bit.a : List TS := [.a [.o (.int .i64), .o (.dat 150 (.int .u64))], .c (.o (.int .i64))]
def spec_l1Bit.u (n : Nat) (v : VA spec_l1Bit.a) (K : RES → Prop) : Prop := spec_l1Bit.c n v.1.1 v.1.2.1 v.2.1 (fun r0 => K ⟨.c (.int .u8 r0), []⟩)
theorem spec_l1Bit_ok : ∀ n v K, spec_l1Bit.u n v K → callM C X0 n 142 (fillA spec_l1Bit.a v) K :=
 call_tell hX (fn := Tryz.f142) (c := bodyOf Tryz.f142) (by kernel_rfl) (by kernel_rfl) (A := spec_l1Bit.a) (u := spec_l1Bit.u) (fun _ _ h => h) (call := D22) (lp := fun n => noL) (D22_ok hX) (fun n => noL_ok) (fun n v K => by kernel_rfl)
def D23 (n : Nat) : CallF := orC 142 spec_l1Bit.a (spec_l1Bit.u n) (D22 n)
theorem D23_ok : ∀ n g a K, D23 n g a K → callM C X0 n g a K := fun n => orC_ok (spec_l1Bit_ok hX n) (D22_ok hX n)
abbrev spec_BitsOk.a : List TS := [.a [.o (.int .i64), .o (.dat 150 (.int .u64))]]
def spec_BitsOk.u (n : Nat) (v : VA spec_BitsOk.a) (K : RES → Prop) : Prop := spec_BitsOk.c n v.1.1 v.1.2.1 (fun r0 => K ⟨.c (.bool r0), []⟩)
abbrev spec_BitsOk.l4.s : ST := ⟨[(1, .c (.o (.pbox 1 0))), (3, .c (.o (.int .i64)))], [], [⟨1, 92, [.o (.int .i64), .o (.dat 150 (.int .u64))], false⟩], [], []⟩
def spec_BitsOk.l4.u (n : Nat) (v : spec_BitsOk.l4.s.V) (K : X → St → Prop) : Prop := spec_BitsOk.l4 n v.2.2.1.1 v.2.2.1.2.1 v.1.2.1 (K (.exit 0) ⟨[], [], [], [], []⟩) (fun y0 => K .ret ⟨[(2, .c (.bool y0))], [], [], [], []⟩)
theorem spec_BitsOk.l4_ok : ∀ n v K, spec_BitsOk.l4.u n v K → loopM C X0 n 107 4 (spec_BitsOk.l4.s.fill v) K :=
 loop_tell hX (fn := Tryz.f107) (c := bodyOf Tryz.f107) (a := loopOf Tryz.f107 4) (li := liOf (C.fi 107).loops 4) (by kernel_rfl) (by kernel_rfl) (of_decide_eq_true rfl) (by kernel_rfl) (by kernel_rfl) (T := spec_BitsOk.l4.s) (u := spec_BitsOk.l4.u) (fun _ _ h => h) (call := D23) (lp := fun n => noL) (D23_ok hX) (fun n => noL_ok) (fun n v K => by kernel_rfl)
theorem spec_BitsOk_ok : ∀ n v K, spec_BitsOk.u n v K → callM C X0 n 107 (fillA spec_BitsOk.a v) K :=
 call_tell hX (fn := Tryz.f107) (c := bodyOf Tryz.f107) (by kernel_rfl) (by kernel_rfl) (A := spec_BitsOk.a) (u := spec_BitsOk.u) (fun _ _ h => h) (call := D23) (lp := fun n => orL 4 spec_BitsOk.l4.s (spec_BitsOk.l4.u n) noL) (D23_ok hX) (fun n => (orL_ok (spec_BitsOk.l4_ok hX n) noL_ok)) (fun n v K => by kernel_rfl)
def D24 (n : Nat) : CallF := orC 107 spec_BitsOk.a (spec_BitsOk.u n) (D23 n)
theorem D24_ok : ∀ n g a K, D24 n g a K → callM C X0 n g a K := fun n => orC_ok (spec_BitsOk_ok hX n) (D23_ok hX n)
abbrev spec_l3Form.a : List TS := [.c (.o (.dat 95 (.prod .str (.int .i64)))), .a [.o (.int .i64), .o (.int .i64), .o (.int .i64), .o (.int .i64), .o (.int .i64), .o (.dat 150 (.int .u64)), .o (.dat 2 (.int .i64))], .c (.o (.int .i64))]
def spec_l3Form.u (n : Nat) (v : VA spec_l3Form.a) (K : RES → Prop) : Prop := spec_l3Form.c n v.1 v.2.1.1 v.2.1.2.1 v.2.1.2.2.1 v.2.1.2.2.2.1 v.2.1.2.2.2.2.1 v.2.1.2.2.2.2.2.1 v.2.1.2.2.2.2.2.2.1 v.2.2.1 (fun r0 => K ⟨.c (.bool r0), []⟩)
abbrev spec_l3Form.l2.s : ST := ⟨[(0, .c (.o (.dat 95 (.prod .str (.int .i64))))), (2, .c (.o (.int .i64))), (4, .c (.o (.pbox 4 0))), (7, .c (.o (.int .i64)))], [], [⟨4, 145, [.o (.int .i64), .o (.int .i64), .o (.int .i64), .o (.int .i64), .o (.int .i64), .o (.dat 150 (.int .u64)), .o (.dat 2 (.int .i64))], false⟩], [], []⟩
def spec_l3Form.l2.u (n : Nat) (v : spec_l3Form.l2.s.V) (K : X → St → Prop) : Prop := spec_l3Form.l2 n v.1.1 v.1.2.1 v.2.2.1.1 v.2.2.1.2.1 v.2.2.1.2.2.1 v.2.2.1.2.2.2.1 v.2.2.1.2.2.2.2.1 v.2.2.1.2.2.2.2.2.1 v.2.2.1.2.2.2.2.2.2.1 v.1.2.2.2.1 (fun y0 y1 y2 y3 y4 y5 y6 y7 => K (.exit 0) ⟨[(0, .c (.dat 95 (.prod .str (.int .i64)) y0)), (4, .c (.pbox 4 0))], [], [(4, ⟨145, [.int .i64 y1, .int .i64 y2, .int .i64 y3, .int .i64 y4, .int .i64 y5, .dat 150 (.int .u64) y6, .dat 2 (.int .i64) y7], false⟩)], [], []⟩) (fun y0 => K .ret ⟨[(6, .c (.bool y0))], [], [], [], []⟩)
abbrev spec_l3Form.q7.s : ST := ⟨[(0, .c (.o (.dat 95 (.prod .str (.int .i64))))), (4, .c (.o (.pbox 4 0))), (63, .c (.o .bool))], [], [⟨4, 145, [.o (.int .i64), .o (.int .i64), .o (.int .i64), .o (.int .i64), .o (.int .i64), .o (.dat 150 (.int .u64)), .o (.dat 2 (.int .i64))], false⟩], [], []⟩
def spec_l3Form.q7.u (n : Nat) (v : spec_l3Form.q7.s.V) (K : X → St → Prop) : Prop := spec_l3Form.q7 n v.1.1 v.1.2.2.1 v.2.2.1.1 v.2.2.1.2.1 v.2.2.1.2.2.1 v.2.2.1.2.2.2.1 v.2.2.1.2.2.2.2.1 v.2.2.1.2.2.2.2.2.1 v.2.2.1.2.2.2.2.2.2.1 (fun y0 => K .ret ⟨[(6, .c (.bool y0))], [], [], [], []⟩) (fun y0 y1 y2 y3 y4 y5 y6 y7 => K .normal ⟨[(0, .c (.dat 95 (.prod .str (.int .i64)) y0)), (4, .c (.pbox 4 0))], [], [(4, ⟨145, [.int .i64 y1, .int .i64 y2, .int .i64 y3, .int .i64 y4, .int .i64 y5, .dat 150 (.int .u64) y6, .dat 2 (.int .i64) y7], false⟩)], [], []⟩)
abbrev spec_l3Form.q8.s : ST := ⟨[(0, .c (.o (.dat 95 (.prod .str (.int .i64))))), (4, .c (.o (.pbox 4 0)))], [], [⟨4, 145, [.o (.int .i64), .o (.int .i64), .o (.int .i64), .o (.int .i64), .o (.int .i64), .o (.dat 150 (.int .u64)), .o (.dat 2 (.int .i64))], false⟩], [], []⟩
def spec_l3Form.q8.u (n : Nat) (v : spec_l3Form.q8.s.V) (K : X → St → Prop) : Prop := spec_l3Form.q8 n v.1.1 v.2.2.1.1 v.2.2.1.2.1 v.2.2.1.2.2.1 v.2.2.1.2.2.2.1 v.2.2.1.2.2.2.2.1 v.2.2.1.2.2.2.2.2.1 v.2.2.1.2.2.2.2.2.2.1 (fun y0 => K .ret ⟨[(6, .c (.bool y0))], [], [], [], []⟩)
theorem spec_l3Form.l2_ok : ∀ n v K, spec_l3Form.l2.u n v K → loopM C X0 n 165 2 (spec_l3Form.l2.s.fill v) K :=
 loop_tell hX (fn := Tryz.f165) (c := bodyOf Tryz.f165) (a := loopOf Tryz.f165 2) (li := liOf (C.fi 165).loops 2) (by kernel_rfl) (by kernel_rfl) (of_decide_eq_true rfl) (by kernel_rfl) (by kernel_rfl) (T := spec_l3Form.l2.s) (u := spec_l3Form.l2.u) (fun _ _ h => h) (call := D24) (lp := fun n => noL) (D24_ok hX) (fun n => noL_ok) (fun n v K => by kernel_rfl)
theorem spec_l3Form.q7_ok : ∀ n v K, spec_l3Form.q7.u n v K → loopM C X0 n 165 1000007 (spec_l3Form.q7.s.fill v) K :=
 cut_tell hX (fn := Tryz.f165) (c := bodyOf Tryz.f165) (a := cutOf Tryz.f165 7) (li := liOf (C.fi 165).loops 1000007) (by kernel_rfl) (by kernel_rfl) (of_decide_eq_true rfl) (by kernel_rfl) (by kernel_rfl) (T := spec_l3Form.q7.s) (u := spec_l3Form.q7.u) (fun _ _ h => h) (call := D24) (lp := fun n => noL) (D24_ok hX) (fun n => noL_ok) (fun n v K => by kernel_rfl)
theorem spec_l3Form.q8_ok : ∀ n v K, spec_l3Form.q8.u n v K → loopM C X0 n 165 1000008 (spec_l3Form.q8.s.fill v) K :=
 cut_tell hX (fn := Tryz.f165) (c := bodyOf Tryz.f165) (a := cutOf Tryz.f165 8) (li := liOf (C.fi 165).loops 1000008) (by kernel_rfl) (by kernel_rfl) (of_decide_eq_true rfl) (by kernel_rfl) (by kernel_rfl) (T := spec_l3Form.q8.s) (u := spec_l3Form.q8.u) (fun _ _ h => h) (call := D24) (lp := fun n => noL) (D24_ok hX) (fun n => noL_ok) (fun n v K => by kernel_rfl)
theorem spec_l3Form_ok : ∀ n v K, spec_l3Form.u n v K → callM C X0 n 165 (fillA spec_l3Form.a v) K :=
 call_tell hX (fn := Tryz.f165) (c := bodyOf Tryz.f165) (by kernel_rfl) (by kernel_rfl) (A := spec_l3Form.a) (u := spec_l3Form.u) (fun _ _ h => h) (call := D24) (lp := fun n => orL 2 spec_l3Form.l2.s (spec_l3Form.l2.u n) (orL 1000007 spec_l3Form.q7.s (spec_l3Form.q7.u n) (orL 1000008 spec_l3Form.q8.s (spec_l3Form.q8.u n) noL))) (D24_ok hX) (fun n => (orL_ok (spec_l3Form.l2_ok hX n) (orL_ok (spec_l3Form.q7_ok hX n) (orL_ok (spec_l3Form.q8_ok hX n) noL_ok)))) (fun n v K => by kernel_rfl)
def D25 (n : Nat) : CallF := orC 165 spec_l3Form.a (spec_l3Form.u n) (D24 n)
theorem D25_ok : ∀ n g a K, D25 n g a K → callM C X0 n g a K := fun n => orC_ok (spec_l3Form_ok hX n) (D24_ok hX n)
abbrev spec_l3Wide.a : List TS := [.c (.o (.dat 95 (.prod .str (.int .i64)))), .a [.o (.int .i64), .o (.int .i64), .o (.int .i64), .o (.int .i64), .o (.int .i64), .o (.dat 150 (.int .u64)), .o (.dat 2 (.int .i64))], .c (.o (.dat 2 (.int .i64)))]
def spec_l3Wide.u (n : Nat) (v : VA spec_l3Wide.a) (K : RES → Prop) : Prop := spec_l3Wide.c n v.1 v.2.1.1 v.2.1.2.1 v.2.1.2.2.1 v.2.1.2.2.2.1 v.2.1.2.2.2.2.1 v.2.1.2.2.2.2.2.1 v.2.1.2.2.2.2.2.2.1 v.2.2.1 (fun r0 => K ⟨.c (.int .i64 r0), []⟩)
abbrev spec_l3Wide.l3.s : ST := ⟨[(0, .c (.o (.dat 95 (.prod .str (.int .i64))))), (2, .c (.o (.dat 2 (.int .i64)))), (4, .c (.o (.pbox 4 0))), (7, .c (.o (.int .i64))), (8, .c (.o (.int .i64)))], [], [⟨4, 145, [.o (.int .i64), .o (.int .i64), .o (.int .i64), .o (.int .i64), .o (.int .i64), .o (.dat 150 (.int .u64)), .o (.dat 2 (.int .i64))], false⟩], [], []⟩
def spec_l3Wide.l3.u (n : Nat) (v : spec_l3Wide.l3.s.V) (K : X → St → Prop) : Prop := spec_l3Wide.l3 n v.1.1 v.1.2.1 v.2.2.1.1 v.2.2.1.2.1 v.2.2.1.2.2.1 v.2.2.1.2.2.2.1 v.2.2.1.2.2.2.2.1 v.2.2.1.2.2.2.2.2.1 v.2.2.1.2.2.2.2.2.2.1 v.1.2.2.2.1 v.1.2.2.2.2.1 (fun y0 y1 y2 y3 y4 y5 y6 y7 y8 => K (.exit 0) ⟨[(0, .c (.dat 95 (.prod .str (.int .i64)) y0)), (4, .c (.pbox 4 0)), (7, .c (.int .i64 y1))], [], [(4, ⟨145, [.int .i64 y2, .int .i64 y3, .int .i64 y4, .int .i64 y5, .int .i64 y6, .dat 150 (.int .u64) y7, .dat 2 (.int .i64) y8], false⟩)], [], []⟩)
theorem spec_l3Wide.l3_ok : ∀ n v K, spec_l3Wide.l3.u n v K → loopM C X0 n 166 3 (spec_l3Wide.l3.s.fill v) K :=
 loop_tell hX (fn := Tryz.f166) (c := bodyOf Tryz.f166) (a := loopOf Tryz.f166 3) (li := liOf (C.fi 166).loops 3) (by kernel_rfl) (by kernel_rfl) (of_decide_eq_true rfl) (by kernel_rfl) (by kernel_rfl) (T := spec_l3Wide.l3.s) (u := spec_l3Wide.l3.u) (fun _ _ h => h) (call := D25) (lp := fun n => noL) (D25_ok hX) (fun n => noL_ok) (fun n v K => by kernel_rfl)
theorem spec_l3Wide_ok : ∀ n v K, spec_l3Wide.u n v K → callM C X0 n 166 (fillA spec_l3Wide.a v) K :=
 call_tell hX (fn := Tryz.f166) (c := bodyOf Tryz.f166) (by kernel_rfl) (by kernel_rfl) (A := spec_l3Wide.a) (u := spec_l3Wide.u) (fun _ _ h => h) (call := D25) (lp := fun n => orL 3 spec_l3Wide.l3.s (spec_l3Wide.l3.u n) noL) (D25_ok hX) (fun n => (orL_ok (spec_l3Wide.l3_ok hX n) noL_ok)) (fun n v K => by kernel_rfl)
def D26 (n : Nat) : CallF := orC 166 spec_l3Wide.a (spec_l3Wide.u n) (D25 n)
theorem D26_ok : ∀ n g a K, D26 n g a K → callM C X0 n g a K := fun n => orC_ok (spec_l3Wide_ok hX n) (D25_ok hX n)
abbrev spec_l3Widths.a : List TS := [.c (.o (.dat 95 (.prod .str (.int .i64)))), .a [.o (.dat 145 (.prod (.int .i64) (.prod (.int .i64) (.prod (.int .i64) (.prod (.int .i64) (.prod (.int .i64) (.prod (.sl 150 (.int .u64)) (.sl 2 (.int .i64)))))))))]]
def spec_l3Widths.u (n : Nat) (v : VA spec_l3Widths.a) (K : RES → Prop) : Prop := spec_l3Widths.c n v.1 v.2.1.1 (fun r0 => K ⟨.c (.row ⟨2, .int .i64, r0, 99, none⟩), []⟩)
abbrev spec_l3Widths.l16.s : ST := ⟨[(0, .c (.o (.dat 95 (.prod .str (.int .i64))))), (3, .c (.o (.pbox 3 0))), (5, .c (.o (.own 384))), (6, .c (.o (.own 2112))), (7, .c (.o (.own 1056))), (8, .c (.o (.int .i64))), (10, .c (.o (.int .i64)))], [⟨384, 2, .int .i64, 99⟩, ⟨1056, 4, .bool, 99⟩, ⟨2112, 2, .int .i64, 99⟩], [⟨3, 89, [.o (.dat 145 (.prod (.int .i64) (.prod (.int .i64) (.prod (.int .i64) (.prod (.int .i64) (.prod (.int .i64) (.prod (.sl 150 (.int .u64)) (.sl 2 (.int .i64)))))))))], false⟩], [], []⟩
def spec_l3Widths.l16.u (n : Nat) (v : spec_l3Widths.l16.s.V) (K : X → St → Prop) : Prop := spec_l3Widths.l16 n v.1.1 v.1.2.2.2.2.2.1 v.2.1.1 v.2.1.2.2.1 v.2.2.1.1 v.1.2.2.2.2.2.2.1 v.2.1.2.1 (fun y0 y1 y2 y3 y4 y5 => K (.exit 2) ⟨[(0, .c (.dat 95 (.prod .str (.int .i64)) y0)), (3, .c (.pbox 3 0)), (5, .c (.own 384)), (6, .c (.own 2112)), (7, .c (.own 1056)), (8, .c (.int .i64 y1))], [(384, ⟨2, .int .i64, y2, 99, none⟩), (1056, ⟨4, .bool, y3, 99, none⟩), (2112, ⟨2, .int .i64, y4, 99, none⟩)], [(3, ⟨89, [.dat 145 (.prod (.int .i64) (.prod (.int .i64) (.prod (.int .i64) (.prod (.int .i64) (.prod (.int .i64) (.prod (.sl 150 (.int .u64)) (.sl 2 (.int .i64)))))))) y5], false⟩)], [], []⟩)
abbrev spec_l3Widths.l7.s : ST := ⟨[(0, .c (.o (.dat 95 (.prod .str (.int .i64))))), (3, .c (.o (.pbox 3 0))), (5, .c (.o (.own 384))), (6, .c (.o (.own 192))), (7, .c (.o (.own 1056))), (8, .c (.o (.int .i64)))], [⟨192, 2, .int .i64, 99⟩, ⟨384, 2, .int .i64, 99⟩, ⟨1056, 4, .bool, 99⟩], [⟨3, 89, [.o (.dat 145 (.prod (.int .i64) (.prod (.int .i64) (.prod (.int .i64) (.prod (.int .i64) (.prod (.int .i64) (.prod (.sl 150 (.int .u64)) (.sl 2 (.int .i64)))))))))], false⟩], [], []⟩
def spec_l3Widths.l7.u (n : Nat) (v : spec_l3Widths.l7.s.V) (K : X → St → Prop) : Prop := spec_l3Widths.l7 n v.1.1 v.1.2.2.2.2.2.1 v.2.1.1 v.2.1.2.1 v.2.1.2.2.1 v.2.2.1.1 (fun y0 y1 y2 => K (.exit 0) ⟨[(5, .c (.own 384)), (6, .c (.own 192)), (7, .c (.own 1056))], [(192, ⟨2, .int .i64, y0, 99, none⟩), (384, ⟨2, .int .i64, y1, 99, none⟩), (1056, ⟨4, .bool, y2, 99, none⟩)], [], [], []⟩) (fun y0 => K .ret ⟨[(4, .c (.own 384))], [(384, ⟨2, .int .i64, y0, 99, none⟩)], [], [], []⟩)
abbrev spec_l3Widths.l20.s : ST := ⟨[(5, .c (.o (.own 384))), (6, .c (.o (.own 192))), (7, .c (.o (.own 1056))), (11, .c (.o (.int .i64)))], [⟨192, 2, .int .i64, 99⟩, ⟨384, 2, .int .i64, 99⟩, ⟨1056, 4, .bool, 99⟩], [], [], []⟩
def spec_l3Widths.l20.u (n : Nat) (v : spec_l3Widths.l20.s.V) (K : X → St → Prop) : Prop := spec_l3Widths.l20 n v.2.1.1 v.2.1.2.1 v.2.1.2.2.1 v.1.2.2.2.1 (fun y0 => K (.exit 4) ⟨[(6, .c (.own 192))], [(192, ⟨2, .int .i64, y0, 99, none⟩)], [], [], []⟩) (fun y0 => K .ret ⟨[(4, .c (.own 384))], [(384, ⟨2, .int .i64, y0, 99, none⟩)], [], [], []⟩)
theorem spec_l3Widths.l16_ok : ∀ n v K, spec_l3Widths.l16.u n v K → loopM C X0 n 143 16 (spec_l3Widths.l16.s.fill v) K :=
 loop_tell hX (fn := Tryz.f143) (c := bodyOf Tryz.f143) (a := loopOf Tryz.f143 16) (li := liOf (C.fi 143).loops 16) (by kernel_rfl) (by kernel_rfl) (of_decide_eq_true rfl) (by kernel_rfl) (by kernel_rfl) (T := spec_l3Widths.l16.s) (u := spec_l3Widths.l16.u) (fun _ _ h => h) (call := D26) (lp := fun n => noL) (D26_ok hX) (fun n => noL_ok) (fun n v K => by kernel_rfl)
theorem spec_l3Widths.l7_ok : ∀ n v K, spec_l3Widths.l7.u n v K → loopM C X0 n 143 7 (spec_l3Widths.l7.s.fill v) K :=
 loop_tell hX (fn := Tryz.f143) (c := bodyOf Tryz.f143) (a := loopOf Tryz.f143 7) (li := liOf (C.fi 143).loops 7) (by kernel_rfl) (by kernel_rfl) (of_decide_eq_true rfl) (by kernel_rfl) (by kernel_rfl) (T := spec_l3Widths.l7.s) (u := spec_l3Widths.l7.u) (fun _ _ h => h) (call := D26) (lp := fun n => orL 16 spec_l3Widths.l16.s (spec_l3Widths.l16.u n) noL) (D26_ok hX) (fun n => (orL_ok (spec_l3Widths.l16_ok hX n) noL_ok)) (fun n v K => by kernel_rfl)
theorem spec_l3Widths.l20_ok : ∀ n v K, spec_l3Widths.l20.u n v K → loopM C X0 n 143 20 (spec_l3Widths.l20.s.fill v) K :=
 loop_tell hX (fn := Tryz.f143) (c := bodyOf Tryz.f143) (a := loopOf Tryz.f143 20) (li := liOf (C.fi 143).loops 20) (by kernel_rfl) (by kernel_rfl) (of_decide_eq_true rfl) (by kernel_rfl) (by kernel_rfl) (T := spec_l3Widths.l20.s) (u := spec_l3Widths.l20.u) (fun _ _ h => h) (call := D26) (lp := fun n => noL) (D26_ok hX) (fun n => noL_ok) (fun n v K => by kernel_rfl)
theorem spec_l3Widths_ok : ∀ n v K, spec_l3Widths.u n v K → callM C X0 n 143 (fillA spec_l3Widths.a v) K :=
 call_tell hX (fn := Tryz.f143) (c := bodyOf Tryz.f143) (by kernel_rfl) (by kernel_rfl) (A := spec_l3Widths.a) (u := spec_l3Widths.u) (fun _ _ h => h) (call := D26) (lp := fun n => orL 7 spec_l3Widths.l7.s (spec_l3Widths.l7.u n) (orL 20 spec_l3Widths.l20.s (spec_l3Widths.l20.u n) noL)) (D26_ok hX) (fun n => (orL_ok (spec_l3Widths.l7_ok hX n) (orL_ok (spec_l3Widths.l20_ok hX n) noL_ok))) (fun n v K => by kernel_rfl)
def D27 (n : Nat) : CallF := orC 143 spec_l3Widths.a (spec_l3Widths.u n) (D26 n)
theorem D27_ok : ∀ n g a K, D27 n g a K → callM C X0 n g a K := fun n => orC_ok (spec_l3Widths_ok hX n) (D26_ok hX n)
abbrev spec_WidthOf.a : List TS := [.c (.o (.dat 95 (.prod .str (.int .i64)))), .a [.o (.dat 145 (.prod (.int .i64) (.prod (.int .i64) (.prod (.int .i64) (.prod (.int .i64) (.prod (.int .i64) (.prod (.sl 150 (.int .u64)) (.sl 2 (.int .i64)))))))))]]
def spec_WidthOf.u (n : Nat) (v : VA spec_WidthOf.a) (K : RES → Prop) : Prop := spec_WidthOf.c n v.1 v.2.1.1 (fun r0 => K ⟨.c (.int .i64 r0), []⟩)
theorem spec_WidthOf_ok : ∀ n v K, spec_WidthOf.u n v K → callM C X0 n 108 (fillA spec_WidthOf.a v) K :=
 call_tell hX (fn := Tryz.f108) (c := bodyOf Tryz.f108) (by kernel_rfl) (by kernel_rfl) (A := spec_WidthOf.a) (u := spec_WidthOf.u) (fun _ _ h => h) (call := D27) (lp := fun n => noL) (D27_ok hX) (fun n => noL_ok) (fun n v K => by kernel_rfl)
def D28 (n : Nat) : CallF := orC 108 spec_WidthOf.a (spec_WidthOf.u n) (D27 n)
theorem D28_ok : ∀ n g a K, D28 n g a K → callM C X0 n g a K := fun n => orC_ok (spec_WidthOf_ok hX n) (D27_ok hX n)
abbrev impl_nameOk.a : List TS := [.c (.o .str)]
def impl_nameOk.u (n : Nat) (v : VA impl_nameOk.a) (K : RES → Prop) : Prop := impl_nameOk.c n v.1 (fun r0 => K ⟨.c (.bool r0), []⟩)
abbrev impl_nameOk.l4.s : ST := ⟨[(0, .c (.o .str)), (3, .c (.o (.int .i64)))], [], [], [], []⟩
def impl_nameOk.l4.u (n : Nat) (v : impl_nameOk.l4.s.V) (K : X → St → Prop) : Prop := impl_nameOk.l4 n v.1.1 v.1.2.1 (K (.exit 0) ⟨[], [], [], [], []⟩) (fun y0 => K .ret ⟨[(2, .c (.bool y0))], [], [], [], []⟩)
theorem impl_nameOk.l4_ok : ∀ n v K, impl_nameOk.l4.u n v K → loopM C X0 n 94 4 (impl_nameOk.l4.s.fill v) K :=
 loop_tell hX (fn := Tryz.f94) (c := bodyOf Tryz.f94) (a := loopOf Tryz.f94 4) (li := liOf (C.fi 94).loops 4) (by kernel_rfl) (by kernel_rfl) (of_decide_eq_true rfl) (by kernel_rfl) (by kernel_rfl) (T := impl_nameOk.l4.s) (u := impl_nameOk.l4.u) (fun _ _ h => h) (call := D28) (lp := fun n => noL) (D28_ok hX) (fun n => noL_ok) (fun n v K => by kernel_rfl)
theorem impl_nameOk_ok : ∀ n v K, impl_nameOk.u n v K → callM C X0 n 94 (fillA impl_nameOk.a v) K :=
 call_tell hX (fn := Tryz.f94) (c := bodyOf Tryz.f94) (by kernel_rfl) (by kernel_rfl) (A := impl_nameOk.a) (u := impl_nameOk.u) (fun _ _ h => h) (call := D28) (lp := fun n => orL 4 impl_nameOk.l4.s (impl_nameOk.l4.u n) noL) (D28_ok hX) (fun n => (orL_ok (impl_nameOk.l4_ok hX n) noL_ok)) (fun n v K => by kernel_rfl)
def D29 (n : Nat) : CallF := orC 94 impl_nameOk.a (impl_nameOk.u n) (D28 n)
theorem D29_ok : ∀ n g a K, D29 n g a K → callM C X0 n g a K := fun n => orC_ok (impl_nameOk_ok hX n) (D28_ok hX n)
abbrev impl_inside.a : List TS := [.c (.o (.int .i64)), .c (.o (.int .i64)), .c (.o (.int .i64))]
def impl_inside.u (n : Nat) (v : VA impl_inside.a) (K : RES → Prop) : Prop := impl_inside.c n v.1 v.2.1 v.2.2.1 (fun r0 => K ⟨.c (.bool r0), []⟩)
theorem impl_inside_ok : ∀ n v K, impl_inside.u n v K → callM C X0 n 96 (fillA impl_inside.a v) K :=
 call_tell hX (fn := Tryz.f96) (c := bodyOf Tryz.f96) (by kernel_rfl) (by kernel_rfl) (A := impl_inside.a) (u := impl_inside.u) (fun _ _ h => h) (call := D29) (lp := fun n => noL) (D29_ok hX) (fun n => noL_ok) (fun n v K => by kernel_rfl)
def D30 (n : Nat) : CallF := orC 96 impl_inside.a (impl_inside.u n) (D29 n)
theorem D30_ok : ∀ n g a K, D30 n g a K → callM C X0 n g a K := fun n => orC_ok (impl_inside_ok hX n) (D29_ok hX n)
abbrev impl_declared_1.a : List TS := [.a [.o .str, .o (.int .i64)], .c (.o (.pdat 9 .str 0))]
def impl_declared_1.u (n : Nat) (v : VA impl_declared_1.a) (K : RES → Prop) : Prop := impl_declared_1.c n v.1.1 v.1.2.1 v.2.1 (fun r0 => K ⟨.c (.bool r0), []⟩)
theorem impl_declared_1_ok : ∀ n v K, impl_declared_1.u n v K → callM C X0 n 134 (fillA impl_declared_1.a v) K :=
 call_tell hX (fn := Tryz.f134) (c := bodyOf Tryz.f134) (by kernel_rfl) (by kernel_rfl) (A := impl_declared_1.a) (u := impl_declared_1.u) (fun _ _ h => h) (call := D30) (lp := fun n => noL) (D30_ok hX) (fun n => noL_ok) (fun n v K => by kernel_rfl)
def D31 (n : Nat) : CallF := orC 134 impl_declared_1.a (impl_declared_1.u n) (D30 n)
theorem D31_ok : ∀ n g a K, D31 n g a K → callM C X0 n g a K := fun n => orC_ok (impl_declared_1_ok hX n) (D30_ok hX n)
abbrev slices_IndexFunc_Decl__impl_declared_1.a : List TS := [.c (.o (.dat 95 (.prod .str (.int .i64)))), .c (.fn 134 [(false, 1)] 0 [.pdat 9 .str 0])]
def slices_IndexFunc_Decl__impl_declared_1.u (n : Nat) (v : VA slices_IndexFunc_Decl__impl_declared_1.a) (K : RES → Prop) : Prop := slices_IndexFunc_Decl__impl_declared_1.c n v.1 v.2.1.1 (fun r0 => K ⟨.c (.int .i64 r0), []⟩)
abbrev slices_IndexFunc_Decl__impl_declared_1.l2.s : ST := ⟨[(0, .c (.o (.dat 95 (.prod .str (.int .i64))))), (1, .c (.fn 134 [(false, 1)] 0 [.pdat 9 .str 0])), (7, .c (.o (.int .i64))), (8, .c (.o (.int .i64)))], [], [], [], []⟩
def slices_IndexFunc_Decl__impl_declared_1.l2.u (n : Nat) (v : slices_IndexFunc_Decl__impl_declared_1.l2.s.V) (K : X → St → Prop) : Prop := slices_IndexFunc_Decl__impl_declared_1.l2 n v.1.1 v.1.2.1.1 v.1.2.2.1 v.1.2.2.2.1 (K (.exit 0) ⟨[], [], [], [], []⟩) (fun y0 => K .ret ⟨[(4, .c (.int .i64 y0))], [], [], [], []⟩)
theorem slices_IndexFunc_Decl__impl_declared_1.l2_ok : ∀ n v K, slices_IndexFunc_Decl__impl_declared_1.l2.u n v K → loopM C X0 n 133 2 (slices_IndexFunc_Decl__impl_declared_1.l2.s.fill v) K :=
 loop_tell hX (fn := Tryz.f133) (c := bodyOf Tryz.f133) (a := loopOf Tryz.f133 2) (li := liOf (C.fi 133).loops 2) (by kernel_rfl) (by kernel_rfl) (of_decide_eq_true rfl) (by kernel_rfl) (by kernel_rfl) (T := slices_IndexFunc_Decl__impl_declared_1.l2.s) (u := slices_IndexFunc_Decl__impl_declared_1.l2.u) (fun _ _ h => h) (call := D31) (lp := fun n => noL) (D31_ok hX) (fun n => noL_ok) (fun n v K => by kernel_rfl)
theorem slices_IndexFunc_Decl__impl_declared_1_ok : ∀ n v K, slices_IndexFunc_Decl__impl_declared_1.u n v K → callM C X0 n 133 (fillA slices_IndexFunc_Decl__impl_declared_1.a v) K :=
 call_tell hX (fn := Tryz.f133) (c := bodyOf Tryz.f133) (by kernel_rfl) (by kernel_rfl) (A := slices_IndexFunc_Decl__impl_declared_1.a) (u := slices_IndexFunc_Decl__impl_declared_1.u) (fun _ _ h => h) (call := D31) (lp := fun n => orL 2 slices_IndexFunc_Decl__impl_declared_1.l2.s (slices_IndexFunc_Decl__impl_declared_1.l2.u n) noL) (D31_ok hX) (fun n => (orL_ok (slices_IndexFunc_Decl__impl_declared_1.l2_ok hX n) noL_ok)) (fun n v K => by kernel_rfl)
def D32 (n : Nat) : CallF := orC 133 slices_IndexFunc_Decl__impl_declared_1.a (slices_IndexFunc_Decl__impl_declared_1.u n) (D31 n)
theorem D32_ok : ∀ n g a K, D32 n g a K → callM C X0 n g a K := fun n => orC_ok (slices_IndexFunc_Decl__impl_declared_1_ok hX n) (D31_ok hX n)
abbrev impl_declared.a : List TS := [.c (.o (.dat 95 (.prod .str (.int .i64)))), .c (.o .str)]
def impl_declared.u (n : Nat) (v : VA impl_declared.a) (K : RES → Prop) : Prop := impl_declared.c n v.1 v.2.1 (fun r0 => K ⟨.c (.int .i64 r0), []⟩)
theorem impl_declared_ok : ∀ n v K, impl_declared.u n v K → callM C X0 n 95 (fillA impl_declared.a v) K :=
 call_tell hX (fn := Tryz.f95) (c := bodyOf Tryz.f95) (by kernel_rfl) (by kernel_rfl) (A := impl_declared.a) (u := impl_declared.u) (fun _ _ h => h) (call := D32) (lp := fun n => noL) (D32_ok hX) (fun n => noL_ok) (fun n v K => by kernel_rfl)
def D33 (n : Nat) : CallF := orC 95 impl_declared.a (impl_declared.u n) (D32 n)
theorem D33_ok : ∀ n g a K, D33 n g a K → callM C X0 n g a K := fun n => orC_ok (impl_declared_ok hX n) (D32_ok hX n)
abbrev impl_DeclsOk.a : List TS := [.c (.o (.dat 95 (.prod .str (.int .i64))))]
def impl_DeclsOk.u (n : Nat) (v : VA impl_DeclsOk.a) (K : RES → Prop) : Prop := impl_DeclsOk.c n v.1 (fun r0 => K ⟨.c (.bool r0), []⟩)
abbrev impl_DeclsOk.l5.s : ST := ⟨[(0, .c (.o (.dat 95 (.prod .str (.int .i64))))), (3, .c (.o (.int .i64))), (9, .c (.o (.dat 95 (.prod .str (.int .i64))))), (10, .c (.o (.int .i64))), (11, .c (.o (.int .i64)))], [], [], [], []⟩
def impl_DeclsOk.l5.u (n : Nat) (v : impl_DeclsOk.l5.s.V) (K : X → St → Prop) : Prop := impl_DeclsOk.l5 n v.1.1 v.1.2.2.1 v.1.2.2.2.1 v.1.2.1 v.1.2.2.2.2.1 (fun y0 => K (.exit 0) ⟨[(3, .c (.int .i64 y0))], [], [], [], []⟩) (fun y0 => K .ret ⟨[(2, .c (.bool y0))], [], [], [], []⟩)
theorem impl_DeclsOk.l5_ok : ∀ n v K, impl_DeclsOk.l5.u n v K → loopM C X0 n 112 5 (impl_DeclsOk.l5.s.fill v) K :=
 loop_tell hX (fn := Tryz.f112) (c := bodyOf Tryz.f112) (a := loopOf Tryz.f112 5) (li := liOf (C.fi 112).loops 5) (by kernel_rfl) (by kernel_rfl) (of_decide_eq_true rfl) (by kernel_rfl) (by kernel_rfl) (T := impl_DeclsOk.l5.s) (u := impl_DeclsOk.l5.u) (fun _ _ h => h) (call := D33) (lp := fun n => noL) (D33_ok hX) (fun n => noL_ok) (fun n v K => by kernel_rfl)
theorem impl_DeclsOk_ok : ∀ n v K, impl_DeclsOk.u n v K → callM C X0 n 112 (fillA impl_DeclsOk.a v) K :=
 call_tell hX (fn := Tryz.f112) (c := bodyOf Tryz.f112) (by kernel_rfl) (by kernel_rfl) (A := impl_DeclsOk.a) (u := impl_DeclsOk.u) (fun _ _ h => h) (call := D33) (lp := fun n => orL 5 impl_DeclsOk.l5.s (impl_DeclsOk.l5.u n) noL) (D33_ok hX) (fun n => (orL_ok (impl_DeclsOk.l5_ok hX n) noL_ok)) (fun n v K => by kernel_rfl)
def D34 (n : Nat) : CallF := orC 112 impl_DeclsOk.a (impl_DeclsOk.u n) (D33 n)
theorem D34_ok : ∀ n g a K, D34 n g a K → callM C X0 n g a K := fun n => orC_ok (impl_DeclsOk_ok hX n) (D33_ok hX n)
abbrev impl_wordsFor.a : List TS := [.c (.o (.int .i64))]
def impl_wordsFor.u (n : Nat) (v : VA impl_wordsFor.a) (K : RES → Prop) : Prop := impl_wordsFor.c n v.1 (fun r0 => K ⟨.c (.int .i64 r0), []⟩)
theorem impl_wordsFor_ok : ∀ n v K, impl_wordsFor.u n v K → callM C X0 n 169 (fillA impl_wordsFor.a v) K :=
 call_tell hX (fn := Tryz.f169) (c := bodyOf Tryz.f169) (by kernel_rfl) (by kernel_rfl) (A := impl_wordsFor.a) (u := impl_wordsFor.u) (fun _ _ h => h) (call := D34) (lp := fun n => noL) (D34_ok hX) (fun n => noL_ok) (fun n v K => by kernel_rfl)
def D35 (n : Nat) : CallF := orC 169 impl_wordsFor.a (impl_wordsFor.u n) (D34 n)
theorem D35_ok : ∀ n g a K, D35 n g a K → callM C X0 n g a K := fun n => orC_ok (impl_wordsFor_ok hX n) (D34_ok hX n)
abbrev impl_BitsOk.a : List TS := [.a [.o (.int .i64), .o (.dat 150 (.int .u64))]]
def impl_BitsOk.u (n : Nat) (v : VA impl_BitsOk.a) (K : RES → Prop) : Prop := impl_BitsOk.c n v.1.1 v.1.2.1 (fun r0 => K ⟨.c (.bool r0), []⟩)
theorem impl_BitsOk_ok : ∀ n v K, impl_BitsOk.u n v K → callM C X0 n 150 (fillA impl_BitsOk.a v) K :=
 call_tell hX (fn := Tryz.f150) (c := bodyOf Tryz.f150) (by kernel_rfl) (by kernel_rfl) (A := impl_BitsOk.a) (u := impl_BitsOk.u) (fun _ _ h => h) (call := D35) (lp := fun n => noL) (D35_ok hX) (fun n => noL_ok) (fun n v K => by kernel_rfl)
def D36 (n : Nat) : CallF := orC 150 impl_BitsOk.a (impl_BitsOk.u n) (D35 n)
theorem D36_ok : ∀ n g a K, D36 n g a K → callM C X0 n g a K := fun n => orC_ok (impl_BitsOk_ok hX n) (D35_ok hX n)
abbrev impl_TNode_width.a : List TS := [.c (.o (.pdat 145 (.prod (.int .i64) (.prod (.int .i64) (.prod (.int .i64) (.prod (.int .i64) (.prod (.int .i64) (.prod (.sl 150 (.int .u64)) (.sl 2 (.int .i64)))))))) 0)), .c (.o (.dat 95 (.prod .str (.int .i64)))), .c (.o (.dat 2 (.int .i64)))]
def impl_TNode_width.u (n : Nat) (v : VA impl_TNode_width.a) (K : RES → Prop) : Prop := impl_TNode_width.c n v.1 v.2.1 v.2.2.1 (fun r0 => K ⟨.c (.int .i64 r0), []⟩)
abbrev impl_TNode_width.l11.s : ST := ⟨[(8, .c (.o (.int .i64))), (80, .c (.o (.dat 2 (.int .i64)))), (81, .c (.o (.int .i64))), (82, .c (.o (.int .i64)))], [], [], [], []⟩
def impl_TNode_width.l11.u (n : Nat) (v : impl_TNode_width.l11.s.V) (K : X → St → Prop) : Prop := impl_TNode_width.l11 n v.1.2.1 v.1.2.2.1 v.1.1 v.1.2.2.2.1 (fun y0 => K (.exit 1) ⟨[(8, .c (.int .i64 y0))], [], [], [], []⟩)
abbrev impl_TNode_width.q21.s : ST := ⟨[(0, .c (.o (.pdat 145 (.prod (.int .i64) (.prod (.int .i64) (.prod (.int .i64) (.prod (.int .i64) (.prod (.int .i64) (.prod (.sl 150 (.int .u64)) (.sl 2 (.int .i64)))))))) 0))), (7, .c (.o (.int .i64))), (137, .c (.o .bool))], [], [], [], []⟩
def impl_TNode_width.q21.u (n : Nat) (v : impl_TNode_width.q21.s.V) (K : X → St → Prop) : Prop := impl_TNode_width.q21 n v.1.1 v.1.2.1 v.1.2.2.1 (fun y0 => K .ret ⟨[(6, .c (.int .i64 y0))], [], [], [], []⟩) (K .normal ⟨[], [], [], [], []⟩)
abbrev impl_TNode_width.q9.s : ST := ⟨[(0, .c (.o (.pdat 145 (.prod (.int .i64) (.prod (.int .i64) (.prod (.int .i64) (.prod (.int .i64) (.prod (.int .i64) (.prod (.sl 150 (.int .u64)) (.sl 2 (.int .i64)))))))) 0))), (2, .c (.o (.dat 2 (.int .i64)))), (7, .c (.o (.int .i64))), (69, .c (.o .bool))], [], [], [], []⟩
def impl_TNode_width.q9.u (n : Nat) (v : impl_TNode_width.q9.s.V) (K : X → St → Prop) : Prop := impl_TNode_width.q9 n v.1.1 v.1.2.1 v.1.2.2.1 v.1.2.2.2.1 (fun y0 => K .ret ⟨[(6, .c (.int .i64 y0))], [], [], [], []⟩) (K .normal ⟨[], [], [], [], []⟩)
abbrev impl_TNode_width.q5.s : ST := ⟨[(0, .c (.o (.pdat 145 (.prod (.int .i64) (.prod (.int .i64) (.prod (.int .i64) (.prod (.int .i64) (.prod (.int .i64) (.prod (.sl 150 (.int .u64)) (.sl 2 (.int .i64)))))))) 0))), (1, .c (.o (.dat 95 (.prod .str (.int .i64))))), (2, .c (.o (.dat 2 (.int .i64)))), (7, .c (.o (.int .i64))), (17, .c (.o .bool))], [], [], [], []⟩
def impl_TNode_width.q5.u (n : Nat) (v : impl_TNode_width.q5.s.V) (K : X → St → Prop) : Prop := impl_TNode_width.q5 n v.1.1 v.1.2.1 v.1.2.2.1 v.1.2.2.2.1 v.1.2.2.2.2.1 (fun y0 => K .ret ⟨[(6, .c (.int .i64 y0))], [], [], [], []⟩) (K .normal ⟨[], [], [], [], []⟩)
theorem impl_TNode_width.l11_ok : ∀ n v K, impl_TNode_width.l11.u n v K → loopM C X0 n 170 11 (impl_TNode_width.l11.s.fill v) K :=
 loop_tell hX (fn := Tryz.f170) (c := bodyOf Tryz.f170) (a := loopOf Tryz.f170 11) (li := liOf (C.fi 170).loops 11) (by kernel_rfl) (by kernel_rfl) (of_decide_eq_true rfl) (by kernel_rfl) (by kernel_rfl) (T := impl_TNode_width.l11.s) (u := impl_TNode_width.l11.u) (fun _ _ h => h) (call := D36) (lp := fun n => noL) (D36_ok hX) (fun n => noL_ok) (fun n v K => by kernel_rfl)
theorem impl_TNode_width.q21_ok : ∀ n v K, impl_TNode_width.q21.u n v K → loopM C X0 n 170 1000021 (impl_TNode_width.q21.s.fill v) K :=
 cut_tell hX (fn := Tryz.f170) (c := bodyOf Tryz.f170) (a := cutOf Tryz.f170 21) (li := liOf (C.fi 170).loops 1000021) (by kernel_rfl) (by kernel_rfl) (of_decide_eq_true rfl) (by kernel_rfl) (by kernel_rfl) (T := impl_TNode_width.q21.s) (u := impl_TNode_width.q21.u) (fun _ _ h => h) (call := D36) (lp := fun n => noL) (D36_ok hX) (fun n => noL_ok) (fun n v K => by kernel_rfl)
theorem impl_TNode_width.q9_ok : ∀ n v K, impl_TNode_width.q9.u n v K → loopM C X0 n 170 1000009 (impl_TNode_width.q9.s.fill v) K :=
 cut_tell hX (fn := Tryz.f170) (c := bodyOf Tryz.f170) (a := cutOf Tryz.f170 9) (li := liOf (C.fi 170).loops 1000009) (by kernel_rfl) (by kernel_rfl) (of_decide_eq_true rfl) (by kernel_rfl) (by kernel_rfl) (T := impl_TNode_width.q9.s) (u := impl_TNode_width.q9.u) (fun _ _ h => h) (call := D36) (lp := fun n => orL 11 impl_TNode_width.l11.s (impl_TNode_width.l11.u n) (orL 1000021 impl_TNode_width.q21.s (impl_TNode_width.q21.u n) noL)) (D36_ok hX) (fun n => (orL_ok (impl_TNode_width.l11_ok hX n) (orL_ok (impl_TNode_width.q21_ok hX n) noL_ok))) (fun n v K => by kernel_rfl)
theorem impl_TNode_width.q5_ok : ∀ n v K, impl_TNode_width.q5.u n v K → loopM C X0 n 170 1000005 (impl_TNode_width.q5.s.fill v) K :=
 cut_tell hX (fn := Tryz.f170) (c := bodyOf Tryz.f170) (a := cutOf Tryz.f170 5) (li := liOf (C.fi 170).loops 1000005) (by kernel_rfl) (by kernel_rfl) (of_decide_eq_true rfl) (by kernel_rfl) (by kernel_rfl) (T := impl_TNode_width.q5.s) (u := impl_TNode_width.q5.u) (fun _ _ h => h) (call := D36) (lp := fun n => orL 1000009 impl_TNode_width.q9.s (impl_TNode_width.q9.u n) noL) (D36_ok hX) (fun n => (orL_ok (impl_TNode_width.q9_ok hX n) noL_ok)) (fun n v K => by kernel_rfl)
theorem impl_TNode_width_ok : ∀ n v K, impl_TNode_width.u n v K → callM C X0 n 170 (fillA impl_TNode_width.a v) K :=
 call_tell hX (fn := Tryz.f170) (c := bodyOf Tryz.f170) (by kernel_rfl) (by kernel_rfl) (A := impl_TNode_width.a) (u := impl_TNode_width.u) (fun _ _ h => h) (call := D36) (lp := fun n => orL 1000005 impl_TNode_width.q5.s (impl_TNode_width.q5.u n) noL) (D36_ok hX) (fun n => (orL_ok (impl_TNode_width.q5_ok hX n) noL_ok)) (fun n v K => by kernel_rfl)
def D37 (n : Nat) : CallF := orC 170 impl_TNode_width.a (impl_TNode_width.u n) (D36 n)
theorem D37_ok : ∀ n g a K, D37 n g a K → callM C X0 n g a K := fun n => orC_ok (impl_TNode_width_ok hX n) (D36_ok hX n)
abbrev impl_TNode_plain.a : List TS := [.c (.o (.pdat 145 (.prod (.int .i64) (.prod (.int .i64) (.prod (.int .i64) (.prod (.int .i64) (.prod (.int .i64) (.prod (.sl 150 (.int .u64)) (.sl 2 (.int .i64)))))))) 0))]
def impl_TNode_plain.u (n : Nat) (v : VA impl_TNode_plain.a) (K : RES → Prop) : Prop := impl_TNode_plain.c n v.1 (fun r0 => K ⟨.c (.bool r0), []⟩)
abbrev impl_TNode_plain.q3.s : ST := ⟨[(0, .c (.o (.pdat 145 (.prod (.int .i64) (.prod (.int .i64) (.prod (.int .i64) (.prod (.int .i64) (.prod (.int .i64) (.prod (.sl 150 (.int .u64)) (.sl 2 (.int .i64)))))))) 0))), (52, .c (.o .bool))], [], [], [], []⟩
def impl_TNode_plain.q3.u (n : Nat) (v : impl_TNode_plain.q3.s.V) (K : X → St → Prop) : Prop := impl_TNode_plain.q3 n v.1.1 v.1.2.1 (fun y0 => K .ret ⟨[(2, .c (.bool y0))], [], [], [], []⟩) (fun y0 => K .normal ⟨[(0, .c (.pdat 145 (.prod (.int .i64) (.prod (.int .i64) (.prod (.int .i64) (.prod (.int .i64) (.prod (.int .i64) (.prod (.sl 150 (.int .u64)) (.sl 2 (.int .i64)))))))) y0 0))], [], [], [], []⟩)
abbrev impl_TNode_plain.q2.s : ST := ⟨[(0, .c (.o (.pdat 145 (.prod (.int .i64) (.prod (.int .i64) (.prod (.int .i64) (.prod (.int .i64) (.prod (.int .i64) (.prod (.sl 150 (.int .u64)) (.sl 2 (.int .i64)))))))) 0))), (3, .c (.o .bool))], [], [], [], []⟩
def impl_TNode_plain.q2.u (n : Nat) (v : impl_TNode_plain.q2.s.V) (K : X → St → Prop) : Prop := impl_TNode_plain.q2 n v.1.1 v.1.2.1 (fun y0 => K .ret ⟨[(2, .c (.bool y0))], [], [], [], []⟩)
theorem impl_TNode_plain.q3_ok : ∀ n v K, impl_TNode_plain.q3.u n v K → loopM C X0 n 171 1000003 (impl_TNode_plain.q3.s.fill v) K :=
 cut_tell hX (fn := Tryz.f171) (c := bodyOf Tryz.f171) (a := cutOf Tryz.f171 3) (li := liOf (C.fi 171).loops 1000003) (by kernel_rfl) (by kernel_rfl) (of_decide_eq_true rfl) (by kernel_rfl) (by kernel_rfl) (T := impl_TNode_plain.q3.s) (u := impl_TNode_plain.q3.u) (fun _ _ h => h) (call := D37) (lp := fun n => noL) (D37_ok hX) (fun n => noL_ok) (fun n v K => by kernel_rfl)
theorem impl_TNode_plain.q2_ok : ∀ n v K, impl_TNode_plain.q2.u n v K → loopM C X0 n 171 1000002 (impl_TNode_plain.q2.s.fill v) K :=
 cut_tell hX (fn := Tryz.f171) (c := bodyOf Tryz.f171) (a := cutOf Tryz.f171 2) (li := liOf (C.fi 171).loops 1000002) (by kernel_rfl) (by kernel_rfl) (of_decide_eq_true rfl) (by kernel_rfl) (by kernel_rfl) (T := impl_TNode_plain.q2.s) (u := impl_TNode_plain.q2.u) (fun _ _ h => h) (call := D37) (lp := fun n => orL 1000003 impl_TNode_plain.q3.s (impl_TNode_plain.q3.u n) noL) (D37_ok hX) (fun n => (orL_ok (impl_TNode_plain.q3_ok hX n) noL_ok)) (fun n v K => by kernel_rfl)
theorem impl_TNode_plain_ok : ∀ n v K, impl_TNode_plain.u n v K → callM C X0 n 171 (fillA impl_TNode_plain.a v) K :=
 call_tell hX (fn := Tryz.f171) (c := bodyOf Tryz.f171) (by kernel_rfl) (by kernel_rfl) (A := impl_TNode_plain.a) (u := impl_TNode_plain.u) (fun _ _ h => h) (call := D37) (lp := fun n => orL 1000002 impl_TNode_plain.q2.s (impl_TNode_plain.q2.u n) noL) (D37_ok hX) (fun n => (orL_ok (impl_TNode_plain.q2_ok hX n) noL_ok)) (fun n v K => by kernel_rfl)
def D38 (n : Nat) : CallF := orC 171 impl_TNode_plain.a (impl_TNode_plain.u n) (D37 n)
theorem D38_ok : ∀ n g a K, D38 n g a K → callM C X0 n g a K := fun n => orC_ok (impl_TNode_plain_ok hX n) (D37_ok hX n)
end
end Go.Vsi
end

section
set_option linter.unusedVariables false
namespace Go.Vsi
open Go.Proofs
section
variable {X0 : CallF} (hX : CallF.Mono X0)
include hX
abbrev slices_Index_bool.a : List TS := [.c (.o (.dat 4 .bool)), .c (.o .bool)]
def slices_Index_bool.u (n : Nat) (v : VA slices_Index_bool.a) (K : RES → Prop) : Prop := slices_Index_bool.c n v.1 v.2.1 (fun r0 => K ⟨.c (.int .i64 r0), []⟩)
abbrev slices_Index_bool.l2.s : ST := ⟨[(0, .c (.o (.dat 4 .bool))), (1, .c (.o .bool)), (7, .c (.o (.int .i64))), (8, .c (.o (.int .i64)))], [], [], [], []⟩
def slices_Index_bool.l2.u (n : Nat) (v : slices_Index_bool.l2.s.V) (K : X → St → Prop) : Prop := slices_Index_bool.l2 n v.1.1 v.1.2.1 v.1.2.2.1 v.1.2.2.2.1 (K (.exit 0) ⟨[], [], [], [], []⟩) (fun y0 => K .ret ⟨[(4, .c (.int .i64 y0))], [], [], [], []⟩)
theorem slices_Index_bool.l2_ok : ∀ n v K, slices_Index_bool.l2.u n v K → loopM C X0 n 183 2 (slices_Index_bool.l2.s.fill v) K :=
 loop_tell hX (fn := Tryz.f183) (c := bodyOf Tryz.f183) (a := loopOf Tryz.f183 2) (li := liOf (C.fi 183).loops 2) (by kernel_rfl) (by kernel_rfl) (of_decide_eq_true rfl) (by kernel_rfl) (by kernel_rfl) (T := slices_Index_bool.l2.s) (u := slices_Index_bool.l2.u) (fun _ _ h => h) (call := D38) (lp := fun n => noL) (D38_ok hX) (fun n => noL_ok) (fun n v K => by kernel_rfl)
theorem slices_Index_bool_ok : ∀ n v K, slices_Index_bool.u n v K → callM C X0 n 183 (fillA slices_Index_bool.a v) K :=
 call_tell hX (fn := Tryz.f183) (c := bodyOf Tryz.f183) (by kernel_rfl) (by kernel_rfl) (A := slices_Index_bool.a) (u := slices_Index_bool.u) (fun _ _ h => h) (call := D38) (lp := fun n => orL 2 slices_Index_bool.l2.s (slices_Index_bool.l2.u n) noL) (D38_ok hX) (fun n => (orL_ok (slices_Index_bool.l2_ok hX n) noL_ok)) (fun n v K => by kernel_rfl)
def D39 (n : Nat) : CallF := orC 183 slices_Index_bool.a (slices_Index_bool.u n) (D38 n)
theorem D39_ok : ∀ n g a K, D39 n g a K → callM C X0 n g a K := fun n => orC_ok (slices_Index_bool_ok hX n) (D38_ok hX n)
abbrev slices_Contains_bool.a : List TS := [.c (.o (.dat 4 .bool)), .c (.o .bool)]
def slices_Contains_bool.u (n : Nat) (v : VA slices_Contains_bool.a) (K : RES → Prop) : Prop := slices_Contains_bool.c n v.1 v.2.1 (fun r0 => K ⟨.c (.bool r0), []⟩)
theorem slices_Contains_bool_ok : ∀ n v K, slices_Contains_bool.u n v K → callM C X0 n 172 (fillA slices_Contains_bool.a v) K :=
 call_tell hX (fn := Tryz.f172) (c := bodyOf Tryz.f172) (by kernel_rfl) (by kernel_rfl) (A := slices_Contains_bool.a) (u := slices_Contains_bool.u) (fun _ _ h => h) (call := D39) (lp := fun n => noL) (D39_ok hX) (fun n => noL_ok) (fun n v K => by kernel_rfl)
def D40 (n : Nat) : CallF := orC 172 slices_Contains_bool.a (slices_Contains_bool.u n) (D39 n)
theorem D40_ok : ∀ n g a K, D40 n g a K → callM C X0 n g a K := fun n => orC_ok (slices_Contains_bool_ok hX n) (D39_ok hX n)
abbrev impl_widths.a : List TS := [.c (.o (.dat 95 (.prod .str (.int .i64)))), .a [.o (.dat 145 (.prod (.int .i64) (.prod (.int .i64) (.prod (.int .i64) (.prod (.int .i64) (.prod (.int .i64) (.prod (.sl 150 (.int .u64)) (.sl 2 (.int .i64)))))))))]]
def impl_widths.u (n : Nat) (v : VA impl_widths.a) (K : RES → Prop) : Prop := impl_widths.c n v.1 v.2.1.1 (fun r0 r1 => K ⟨.tup [.c (.row ⟨2, .int .i64, r0, 99, none⟩), .c (.bool r1)], []⟩)
abbrev impl_widths.l13.s : ST := ⟨[(0, .c (.o (.dat 95 (.prod .str (.int .i64))))), (3, .c (.o (.pbox 3 0))), (6, .c (.o (.int .i64))), (7, .c (.o (.own 768))), (8, .c (.o (.own 832))), (9, .c (.o (.int .i64))), (10, .c (.o (.pdat 145 (.prod (.int .i64) (.prod (.int .i64) (.prod (.int .i64) (.prod (.int .i64) (.prod (.int .i64) (.prod (.sl 150 (.int .u64)) (.sl 2 (.int .i64)))))))) 0))), (11, .c (.o (.own 1536))), (29, .c (.o (.int .i64))), (30, .c (.o (.int .i64))), (52, .c (.o (.dat 2 (.int .i64)))), (53, .c (.o (.int .i64))), (54, .c (.o (.int .i64)))], [⟨768, 2, .int .i64, 99⟩, ⟨832, 4, .bool, 99⟩, ⟨1536, 2, .int .i64, 99⟩], [⟨3, 89, [.o (.dat 145 (.prod (.int .i64) (.prod (.int .i64) (.prod (.int .i64) (.prod (.int .i64) (.prod (.int .i64) (.prod (.sl 150 (.int .u64)) (.sl 2 (.int .i64)))))))))], false⟩], [], []⟩
def impl_widths.l13.u (n : Nat) (v : impl_widths.l13.s.V) (K : X → St → Prop) : Prop := impl_widths.l13 n v.1.1 v.1.2.2.1 v.1.2.2.2.2.2.1 v.1.2.2.2.2.2.2.1 v.1.2.2.2.2.2.2.2.2.1 v.1.2.2.2.2.2.2.2.2.2.1 v.1.2.2.2.2.2.2.2.2.2.2.1 v.1.2.2.2.2.2.2.2.2.2.2.2.1 v.2.1.1 v.2.2.1.1 v.1.2.2.2.2.2.2.2.2.2.2.2.2.1 v.2.1.2.1 v.2.1.2.2.1 (fun y0 y1 y2 y3 y4 y5 y6 y7 y8 y9 => K (.exit 2) ⟨[(0, .c (.dat 95 (.prod .str (.int .i64)) y0)), (3, .c (.pbox 3 0)), (6, .c (.int .i64 y1)), (7, .c (.own 768)), (8, .c (.own 832)), (9, .c (.int .i64 y2)), (10, .c (.pdat 145 (.prod (.int .i64) (.prod (.int .i64) (.prod (.int .i64) (.prod (.int .i64) (.prod (.int .i64) (.prod (.sl 150 (.int .u64)) (.sl 2 (.int .i64)))))))) y3 0)), (11, .c (.own 1536)), (29, .c (.int .i64 y4)), (30, .c (.int .i64 y5))], [(768, ⟨2, .int .i64, y6, 99, none⟩), (832, ⟨4, .bool, y7, 99, none⟩), (1536, ⟨2, .int .i64, y8, 99, none⟩)], [(3, ⟨89, [.dat 145 (.prod (.int .i64) (.prod (.int .i64) (.prod (.int .i64) (.prod (.int .i64) (.prod (.int .i64) (.prod (.sl 150 (.int .u64)) (.sl 2 (.int .i64)))))))) y9], false⟩)], [], []⟩) (fun y0 y1 => K .ret ⟨[(4, .c (.own 128)), (5, .c (.bool y0))], [(128, ⟨2, .int .i64, y1, 99, none⟩)], [], [], []⟩)
abbrev impl_widths.l6.s : ST := ⟨[(0, .c (.o (.dat 95 (.prod .str (.int .i64))))), (3, .c (.o (.pbox 3 0))), (6, .c (.o (.int .i64))), (7, .c (.o (.own 768))), (8, .c (.o (.own 832))), (29, .c (.o (.int .i64))), (30, .c (.o (.int .i64)))], [⟨768, 2, .int .i64, 99⟩, ⟨832, 4, .bool, 99⟩], [⟨3, 89, [.o (.dat 145 (.prod (.int .i64) (.prod (.int .i64) (.prod (.int .i64) (.prod (.int .i64) (.prod (.int .i64) (.prod (.sl 150 (.int .u64)) (.sl 2 (.int .i64)))))))))], false⟩], [], []⟩
def impl_widths.l6.u (n : Nat) (v : impl_widths.l6.s.V) (K : X → St → Prop) : Prop := impl_widths.l6 n v.1.1 v.1.2.2.1 v.1.2.2.2.2.2.1 v.1.2.2.2.2.2.2.1 v.2.1.1 v.2.1.2.1 v.2.2.1.1 (fun y0 y1 y2 => K (.exit 0) ⟨[(6, .c (.int .i64 y0)), (7, .c (.own 768)), (8, .c (.own 832))], [(768, ⟨2, .int .i64, y1, 99, none⟩), (832, ⟨4, .bool, y2, 99, none⟩)], [], [], []⟩) (fun y0 y1 => K .ret ⟨[(4, .c (.own 128)), (5, .c (.bool y0))], [(128, ⟨2, .int .i64, y1, 99, none⟩)], [], [], []⟩)
theorem impl_widths.l13_ok : ∀ n v K, impl_widths.l13.u n v K → loopM C X0 n 151 13 (impl_widths.l13.s.fill v) K :=
 loop_tell hX (fn := Tryz.f151) (c := bodyOf Tryz.f151) (a := loopOf Tryz.f151 13) (li := liOf (C.fi 151).loops 13) (by kernel_rfl) (by kernel_rfl) (of_decide_eq_true rfl) (by kernel_rfl) (by kernel_rfl) (T := impl_widths.l13.s) (u := impl_widths.l13.u) (fun _ _ h => h) (call := D40) (lp := fun n => noL) (D40_ok hX) (fun n => noL_ok) (fun n v K => by kernel_rfl)
theorem impl_widths.l6_ok : ∀ n v K, impl_widths.l6.u n v K → loopM C X0 n 151 6 (impl_widths.l6.s.fill v) K :=
 loop_tell hX (fn := Tryz.f151) (c := bodyOf Tryz.f151) (a := loopOf Tryz.f151 6) (li := liOf (C.fi 151).loops 6) (by kernel_rfl) (by kernel_rfl) (of_decide_eq_true rfl) (by kernel_rfl) (by kernel_rfl) (T := impl_widths.l6.s) (u := impl_widths.l6.u) (fun _ _ h => h) (call := D40) (lp := fun n => orL 13 impl_widths.l13.s (impl_widths.l13.u n) noL) (D40_ok hX) (fun n => (orL_ok (impl_widths.l13_ok hX n) noL_ok)) (fun n v K => by kernel_rfl)
theorem impl_widths_ok : ∀ n v K, impl_widths.u n v K → callM C X0 n 151 (fillA impl_widths.a v) K :=
 call_tell hX (fn := Tryz.f151) (c := bodyOf Tryz.f151) (by kernel_rfl) (by kernel_rfl) (A := impl_widths.a) (u := impl_widths.u) (fun _ _ h => h) (call := D40) (lp := fun n => orL 6 impl_widths.l6.s (impl_widths.l6.u n) noL) (D40_ok hX) (fun n => (orL_ok (impl_widths.l6_ok hX n) noL_ok)) (fun n v K => by kernel_rfl)
def D41 (n : Nat) : CallF := orC 151 impl_widths.a (impl_widths.u n) (D40 n)
theorem D41_ok : ∀ n g a K, D41 n g a K → callM C X0 n g a K := fun n => orC_ok (impl_widths_ok hX n) (D40_ok hX n)
abbrev impl_widthOf.a : List TS := [.c (.o (.dat 95 (.prod .str (.int .i64)))), .a [.o (.dat 145 (.prod (.int .i64) (.prod (.int .i64) (.prod (.int .i64) (.prod (.int .i64) (.prod (.int .i64) (.prod (.sl 150 (.int .u64)) (.sl 2 (.int .i64)))))))))]]
def impl_widthOf.u (n : Nat) (v : VA impl_widthOf.a) (K : RES → Prop) : Prop := impl_widthOf.c n v.1 v.2.1.1 (fun r0 => K ⟨.c (.int .i64 r0), []⟩)
theorem impl_widthOf_ok : ∀ n v K, impl_widthOf.u n v K → callM C X0 n 115 (fillA impl_widthOf.a v) K :=
 call_tell hX (fn := Tryz.f115) (c := bodyOf Tryz.f115) (by kernel_rfl) (by kernel_rfl) (A := impl_widthOf.a) (u := impl_widthOf.u) (fun _ _ h => h) (call := D41) (lp := fun n => noL) (D41_ok hX) (fun n => noL_ok) (fun n v K => by kernel_rfl)
def D42 (n : Nat) : CallF := orC 115 impl_widthOf.a (impl_widthOf.u n) (D41 n)
theorem D42_ok : ∀ n g a K, D42 n g a K → callM C X0 n g a K := fun n => orC_ok (impl_widthOf_ok hX n) (D41_ok hX n)
abbrev slices_Clone_uint64.a : List TS := [.c (.o (.dat 150 (.int .u64)))]
def slices_Clone_uint64.u (n : Nat) (v : VA slices_Clone_uint64.a) (K : RES → Prop) : Prop := slices_Clone_uint64.c n v.1 (fun r0 => K ⟨.c (.row ⟨150, .int .u64, r0, 99, none⟩), []⟩)
theorem slices_Clone_uint64_ok : ∀ n v K, slices_Clone_uint64.u n v K → callM C X0 n 116 (fillA slices_Clone_uint64.a v) K :=
 call_tell hX (fn := Tryz.f116) (c := bodyOf Tryz.f116) (by kernel_rfl) (by kernel_rfl) (A := slices_Clone_uint64.a) (u := slices_Clone_uint64.u) (fun _ _ h => h) (call := D42) (lp := fun n => noL) (D42_ok hX) (fun n => noL_ok) (fun n v K => by kernel_rfl)
def D43 (n : Nat) : CallF := orC 116 slices_Clone_uint64.a (slices_Clone_uint64.u n) (D42 n)
theorem D43_ok : ∀ n g a K, D43 n g a K → callM C X0 n g a K := fun n => orC_ok (slices_Clone_uint64_ok hX n) (D42_ok hX n)
abbrev impl_cloneBits.a : List TS := [.a [.o (.int .i64), .o (.dat 150 (.int .u64))]]
def impl_cloneBits.u (n : Nat) (v : VA impl_cloneBits.a) (K : RES → Prop) : Prop := impl_cloneBits.c n v.1.1 v.1.2.1 (fun r0 r1 => K ⟨.agg [.int .i64 r0, .row ⟨150, .int .u64, r1, 99, none⟩], []⟩)
theorem impl_cloneBits_ok : ∀ n v K, impl_cloneBits.u n v K → callM C X0 n 60 (fillA impl_cloneBits.a v) K :=
 call_tell hX (fn := Tryz.f60) (c := bodyOf Tryz.f60) (by kernel_rfl) (by kernel_rfl) (A := impl_cloneBits.a) (u := impl_cloneBits.u) (fun _ _ h => h) (call := D43) (lp := fun n => noL) (D43_ok hX) (fun n => noL_ok) (fun n v K => by kernel_rfl)
def D44 (n : Nat) : CallF := orC 60 impl_cloneBits.a (impl_cloneBits.u n) (D43 n)
theorem D44_ok : ∀ n g a K, D44 n g a K → callM C X0 n g a K := fun n => orC_ok (impl_cloneBits_ok hX n) (D43_ok hX n)
abbrev laws_eqDecl.a : List TS := [.a [.o .str, .o (.int .i64)], .a [.o .str, .o (.int .i64)]]
def laws_eqDecl.u (n : Nat) (v : VA laws_eqDecl.a) (K : RES → Prop) : Prop := laws_eqDecl.c n v.1.1 v.1.2.1 v.2.1.1 v.2.1.2.1 (fun r0 => K ⟨.c (.bool r0), []⟩)
theorem laws_eqDecl_ok : ∀ n v K, laws_eqDecl.u n v K → callM C X0 n 63 (fillA laws_eqDecl.a v) K :=
 call_tell hX (fn := Tryz.f63) (c := bodyOf Tryz.f63) (by kernel_rfl) (by kernel_rfl) (A := laws_eqDecl.a) (u := laws_eqDecl.u) (fun _ _ h => h) (call := D44) (lp := fun n => noL) (D44_ok hX) (fun n => noL_ok) (fun n v K => by kernel_rfl)
def D45 (n : Nat) : CallF := orC 63 laws_eqDecl.a (laws_eqDecl.u n) (D44 n)
theorem D45_ok : ∀ n g a K, D45 n g a K → callM C X0 n g a K := fun n => orC_ok (laws_eqDecl_ok hX n) (D44_ok hX n)
abbrev laws_eqDeclS.a : List TS := [.c (.o (.dat 95 (.prod .str (.int .i64)))), .c (.o (.dat 95 (.prod .str (.int .i64))))]
def laws_eqDeclS.u (n : Nat) (v : VA laws_eqDeclS.a) (K : RES → Prop) : Prop := laws_eqDeclS.c n v.1 v.2.1 (fun r0 => K ⟨.c (.bool r0), []⟩)
abbrev laws_eqDeclS.l4.s : ST := ⟨[(0, .c (.o (.dat 95 (.prod .str (.int .i64))))), (1, .c (.o (.dat 95 (.prod .str (.int .i64))))), (5, .c (.o (.int .i64)))], [], [], [], []⟩
def laws_eqDeclS.l4.u (n : Nat) (v : laws_eqDeclS.l4.s.V) (K : X → St → Prop) : Prop := laws_eqDeclS.l4 n v.1.1 v.1.2.1 v.1.2.2.1 (K (.exit 0) ⟨[], [], [], [], []⟩) (fun y0 => K .ret ⟨[(4, .c (.bool y0))], [], [], [], []⟩)
theorem laws_eqDeclS.l4_ok : ∀ n v K, laws_eqDeclS.l4.u n v K → loopM C X0 n 18 4 (laws_eqDeclS.l4.s.fill v) K :=
 loop_tell hX (fn := Tryz.f18) (c := bodyOf Tryz.f18) (a := loopOf Tryz.f18 4) (li := liOf (C.fi 18).loops 4) (by kernel_rfl) (by kernel_rfl) (of_decide_eq_true rfl) (by kernel_rfl) (by kernel_rfl) (T := laws_eqDeclS.l4.s) (u := laws_eqDeclS.l4.u) (fun _ _ h => h) (call := D45) (lp := fun n => noL) (D45_ok hX) (fun n => noL_ok) (fun n v K => by kernel_rfl)
theorem laws_eqDeclS_ok : ∀ n v K, laws_eqDeclS.u n v K → callM C X0 n 18 (fillA laws_eqDeclS.a v) K :=
 call_tell hX (fn := Tryz.f18) (c := bodyOf Tryz.f18) (by kernel_rfl) (by kernel_rfl) (A := laws_eqDeclS.a) (u := laws_eqDeclS.u) (fun _ _ h => h) (call := D45) (lp := fun n => orL 4 laws_eqDeclS.l4.s (laws_eqDeclS.l4.u n) noL) (D45_ok hX) (fun n => (orL_ok (laws_eqDeclS.l4_ok hX n) noL_ok)) (fun n v K => by kernel_rfl)
def D46 (n : Nat) : CallF := orC 18 laws_eqDeclS.a (laws_eqDeclS.u n) (D45 n)
theorem D46_ok : ∀ n g a K, D46 n g a K → callM C X0 n g a K := fun n => orC_ok (laws_eqDeclS_ok hX n) (D45_ok hX n)
abbrev laws_eqUint64S.a : List TS := [.c (.o (.dat 150 (.int .u64))), .c (.o (.dat 150 (.int .u64)))]
def laws_eqUint64S.u (n : Nat) (v : VA laws_eqUint64S.a) (K : RES → Prop) : Prop := laws_eqUint64S.c n v.1 v.2.1 (fun r0 => K ⟨.c (.bool r0), []⟩)
abbrev laws_eqUint64S.l4.s : ST := ⟨[(0, .c (.o (.dat 150 (.int .u64)))), (1, .c (.o (.dat 150 (.int .u64)))), (5, .c (.o (.int .i64)))], [], [], [], []⟩
def laws_eqUint64S.l4.u (n : Nat) (v : laws_eqUint64S.l4.s.V) (K : X → St → Prop) : Prop := laws_eqUint64S.l4 n v.1.1 v.1.2.1 v.1.2.2.1 (K (.exit 0) ⟨[], [], [], [], []⟩) (fun y0 => K .ret ⟨[(4, .c (.bool y0))], [], [], [], []⟩)
theorem laws_eqUint64S.l4_ok : ∀ n v K, laws_eqUint64S.l4.u n v K → loopM C X0 n 118 4 (laws_eqUint64S.l4.s.fill v) K :=
 loop_tell hX (fn := Tryz.f118) (c := bodyOf Tryz.f118) (a := loopOf Tryz.f118 4) (li := liOf (C.fi 118).loops 4) (by kernel_rfl) (by kernel_rfl) (of_decide_eq_true rfl) (by kernel_rfl) (by kernel_rfl) (T := laws_eqUint64S.l4.s) (u := laws_eqUint64S.l4.u) (fun _ _ h => h) (call := D46) (lp := fun n => noL) (D46_ok hX) (fun n => noL_ok) (fun n v K => by kernel_rfl)
theorem laws_eqUint64S_ok : ∀ n v K, laws_eqUint64S.u n v K → callM C X0 n 118 (fillA laws_eqUint64S.a v) K :=
 call_tell hX (fn := Tryz.f118) (c := bodyOf Tryz.f118) (by kernel_rfl) (by kernel_rfl) (A := laws_eqUint64S.a) (u := laws_eqUint64S.u) (fun _ _ h => h) (call := D46) (lp := fun n => orL 4 laws_eqUint64S.l4.s (laws_eqUint64S.l4.u n) noL) (D46_ok hX) (fun n => (orL_ok (laws_eqUint64S.l4_ok hX n) noL_ok)) (fun n v K => by kernel_rfl)
def D47 (n : Nat) : CallF := orC 118 laws_eqUint64S.a (laws_eqUint64S.u n) (D46 n)
theorem D47_ok : ∀ n g a K, D47 n g a K → callM C X0 n g a K := fun n => orC_ok (laws_eqUint64S_ok hX n) (D46_ok hX n)
abbrev laws_eqBits.a : List TS := [.a [.o (.int .i64), .o (.dat 150 (.int .u64))], .a [.o (.int .i64), .o (.dat 150 (.int .u64))]]
def laws_eqBits.u (n : Nat) (v : VA laws_eqBits.a) (K : RES → Prop) : Prop := laws_eqBits.c n v.1.1 v.1.2.1 v.2.1.1 v.2.1.2.1 (fun r0 => K ⟨.c (.bool r0), []⟩)
theorem laws_eqBits_ok : ∀ n v K, laws_eqBits.u n v K → callM C X0 n 62 (fillA laws_eqBits.a v) K :=
 call_tell hX (fn := Tryz.f62) (c := bodyOf Tryz.f62) (by kernel_rfl) (by kernel_rfl) (A := laws_eqBits.a) (u := laws_eqBits.u) (fun _ _ h => h) (call := D47) (lp := fun n => noL) (D47_ok hX) (fun n => noL_ok) (fun n v K => by kernel_rfl)
def D48 (n : Nat) : CallF := orC 62 laws_eqBits.a (laws_eqBits.u n) (D47 n)
theorem D48_ok : ∀ n g a K, D48 n g a K → callM C X0 n g a K := fun n => orC_ok (laws_eqBits_ok hX n) (D47_ok hX n)
abbrev laws_eqInt64S.a : List TS := [.c (.o (.dat 2 (.int .i64))), .c (.o (.dat 2 (.int .i64)))]
def laws_eqInt64S.u (n : Nat) (v : VA laws_eqInt64S.a) (K : RES → Prop) : Prop := laws_eqInt64S.c n v.1 v.2.1 (fun r0 => K ⟨.c (.bool r0), []⟩)
abbrev laws_eqInt64S.l4.s : ST := ⟨[(0, .c (.o (.dat 2 (.int .i64)))), (1, .c (.o (.dat 2 (.int .i64)))), (5, .c (.o (.int .i64)))], [], [], [], []⟩
def laws_eqInt64S.l4.u (n : Nat) (v : laws_eqInt64S.l4.s.V) (K : X → St → Prop) : Prop := laws_eqInt64S.l4 n v.1.1 v.1.2.1 v.1.2.2.1 (K (.exit 0) ⟨[], [], [], [], []⟩) (fun y0 => K .ret ⟨[(4, .c (.bool y0))], [], [], [], []⟩)
theorem laws_eqInt64S.l4_ok : ∀ n v K, laws_eqInt64S.l4.u n v K → loopM C X0 n 28 4 (laws_eqInt64S.l4.s.fill v) K :=
 loop_tell hX (fn := Tryz.f28) (c := bodyOf Tryz.f28) (a := loopOf Tryz.f28 4) (li := liOf (C.fi 28).loops 4) (by kernel_rfl) (by kernel_rfl) (of_decide_eq_true rfl) (by kernel_rfl) (by kernel_rfl) (T := laws_eqInt64S.l4.s) (u := laws_eqInt64S.l4.u) (fun _ _ h => h) (call := D48) (lp := fun n => noL) (D48_ok hX) (fun n => noL_ok) (fun n v K => by kernel_rfl)
theorem laws_eqInt64S_ok : ∀ n v K, laws_eqInt64S.u n v K → callM C X0 n 28 (fillA laws_eqInt64S.a v) K :=
 call_tell hX (fn := Tryz.f28) (c := bodyOf Tryz.f28) (by kernel_rfl) (by kernel_rfl) (A := laws_eqInt64S.a) (u := laws_eqInt64S.u) (fun _ _ h => h) (call := D48) (lp := fun n => orL 4 laws_eqInt64S.l4.s (laws_eqInt64S.l4.u n) noL) (D48_ok hX) (fun n => (orL_ok (laws_eqInt64S.l4_ok hX n) noL_ok)) (fun n v K => by kernel_rfl)
def D49 (n : Nat) : CallF := orC 28 laws_eqInt64S.a (laws_eqInt64S.u n) (D48 n)
theorem D49_ok : ∀ n g a K, D49 n g a K → callM C X0 n g a K := fun n => orC_ok (laws_eqInt64S_ok hX n) (D48_ok hX n)
abbrev laws_eqTNode.a : List TS := [.a [.o (.int .i64), .o (.int .i64), .o (.int .i64), .o (.int .i64), .o (.int .i64), .o (.dat 150 (.int .u64)), .o (.dat 2 (.int .i64))], .a [.o (.int .i64), .o (.int .i64), .o (.int .i64), .o (.int .i64), .o (.int .i64), .o (.dat 150 (.int .u64)), .o (.dat 2 (.int .i64))]]
def laws_eqTNode.u (n : Nat) (v : VA laws_eqTNode.a) (K : RES → Prop) : Prop := laws_eqTNode.c n v.1.1 v.1.2.1 v.1.2.2.1 v.1.2.2.2.1 v.1.2.2.2.2.1 v.1.2.2.2.2.2.1 v.1.2.2.2.2.2.2.1 v.2.1.1 v.2.1.2.1 v.2.1.2.2.1 v.2.1.2.2.2.1 v.2.1.2.2.2.2.1 v.2.1.2.2.2.2.2.1 v.2.1.2.2.2.2.2.2.1 (fun r0 => K ⟨.c (.bool r0), []⟩)
theorem laws_eqTNode_ok : ∀ n v K, laws_eqTNode.u n v K → callM C X0 n 176 (fillA laws_eqTNode.a v) K :=
 call_tell hX (fn := Tryz.f176) (c := bodyOf Tryz.f176) (by kernel_rfl) (by kernel_rfl) (A := laws_eqTNode.a) (u := laws_eqTNode.u) (fun _ _ h => h) (call := D49) (lp := fun n => noL) (D49_ok hX) (fun n => noL_ok) (fun n v K => by kernel_rfl)
def D50 (n : Nat) : CallF := orC 176 laws_eqTNode.a (laws_eqTNode.u n) (D49 n)
theorem D50_ok : ∀ n g a K, D50 n g a K → callM C X0 n g a K := fun n => orC_ok (laws_eqTNode_ok hX n) (D49_ok hX n)
abbrev laws_eqTNodeS.a : List TS := [.c (.o (.dat 145 (.prod (.int .i64) (.prod (.int .i64) (.prod (.int .i64) (.prod (.int .i64) (.prod (.int .i64) (.prod (.sl 150 (.int .u64)) (.sl 2 (.int .i64)))))))))), .c (.o (.dat 145 (.prod (.int .i64) (.prod (.int .i64) (.prod (.int .i64) (.prod (.int .i64) (.prod (.int .i64) (.prod (.sl 150 (.int .u64)) (.sl 2 (.int .i64))))))))))]
def laws_eqTNodeS.u (n : Nat) (v : VA laws_eqTNodeS.a) (K : RES → Prop) : Prop := laws_eqTNodeS.c n v.1 v.2.1 (fun r0 => K ⟨.c (.bool r0), []⟩)
abbrev laws_eqTNodeS.l4.s : ST := ⟨[(0, .c (.o (.dat 145 (.prod (.int .i64) (.prod (.int .i64) (.prod (.int .i64) (.prod (.int .i64) (.prod (.int .i64) (.prod (.sl 150 (.int .u64)) (.sl 2 (.int .i64))))))))))), (1, .c (.o (.dat 145 (.prod (.int .i64) (.prod (.int .i64) (.prod (.int .i64) (.prod (.int .i64) (.prod (.int .i64) (.prod (.sl 150 (.int .u64)) (.sl 2 (.int .i64))))))))))), (5, .c (.o (.int .i64)))], [], [], [], []⟩
def laws_eqTNodeS.l4.u (n : Nat) (v : laws_eqTNodeS.l4.s.V) (K : X → St → Prop) : Prop := laws_eqTNodeS.l4 n v.1.1 v.1.2.1 v.1.2.2.1 (K (.exit 0) ⟨[], [], [], [], []⟩) (fun y0 => K .ret ⟨[(4, .c (.bool y0))], [], [], [], []⟩)
theorem laws_eqTNodeS.l4_ok : ∀ n v K, laws_eqTNodeS.l4.u n v K → loopM C X0 n 157 4 (laws_eqTNodeS.l4.s.fill v) K :=
 loop_tell hX (fn := Tryz.f157) (c := bodyOf Tryz.f157) (a := loopOf Tryz.f157 4) (li := liOf (C.fi 157).loops 4) (by kernel_rfl) (by kernel_rfl) (of_decide_eq_true rfl) (by kernel_rfl) (by kernel_rfl) (T := laws_eqTNodeS.l4.s) (u := laws_eqTNodeS.l4.u) (fun _ _ h => h) (call := D50) (lp := fun n => noL) (D50_ok hX) (fun n => noL_ok) (fun n v K => by kernel_rfl)
theorem laws_eqTNodeS_ok : ∀ n v K, laws_eqTNodeS.u n v K → callM C X0 n 157 (fillA laws_eqTNodeS.a v) K :=
 call_tell hX (fn := Tryz.f157) (c := bodyOf Tryz.f157) (by kernel_rfl) (by kernel_rfl) (A := laws_eqTNodeS.a) (u := laws_eqTNodeS.u) (fun _ _ h => h) (call := D50) (lp := fun n => orL 4 laws_eqTNodeS.l4.s (laws_eqTNodeS.l4.u n) noL) (D50_ok hX) (fun n => (orL_ok (laws_eqTNodeS.l4_ok hX n) noL_ok)) (fun n v K => by kernel_rfl)
def D51 (n : Nat) : CallF := orC 157 laws_eqTNodeS.a (laws_eqTNodeS.u n) (D50 n)
theorem D51_ok : ∀ n g a K, D51 n g a K → callM C X0 n g a K := fun n => orC_ok (laws_eqTNodeS_ok hX n) (D50_ok hX n)
abbrev laws_eqTerm.a : List TS := [.a [.o (.dat 145 (.prod (.int .i64) (.prod (.int .i64) (.prod (.int .i64) (.prod (.int .i64) (.prod (.int .i64) (.prod (.sl 150 (.int .u64)) (.sl 2 (.int .i64)))))))))], .a [.o (.dat 145 (.prod (.int .i64) (.prod (.int .i64) (.prod (.int .i64) (.prod (.int .i64) (.prod (.int .i64) (.prod (.sl 150 (.int .u64)) (.sl 2 (.int .i64)))))))))]]
def laws_eqTerm.u (n : Nat) (v : VA laws_eqTerm.a) (K : RES → Prop) : Prop := laws_eqTerm.c n v.1.1 v.2.1.1 (fun r0 => K ⟨.c (.bool r0), []⟩)
theorem laws_eqTerm_ok : ∀ n v K, laws_eqTerm.u n v K → callM C X0 n 119 (fillA laws_eqTerm.a v) K :=
 call_tell hX (fn := Tryz.f119) (c := bodyOf Tryz.f119) (by kernel_rfl) (by kernel_rfl) (A := laws_eqTerm.a) (u := laws_eqTerm.u) (fun _ _ h => h) (call := D51) (lp := fun n => noL) (D51_ok hX) (fun n => noL_ok) (fun n v K => by kernel_rfl)
def D52 (n : Nat) : CallF := orC 119 laws_eqTerm.a (laws_eqTerm.u n) (D51 n)
theorem D52_ok : ∀ n g a K, D52 n g a K → callM C X0 n g a K := fun n => orC_ok (laws_eqTerm_ok hX n) (D51_ok hX n)
abbrev laws_markText.a : List TS := [.c (.o (.int .i64))]
def laws_markText.u (n : Nat) (v : VA laws_markText.a) (K : RES → Prop) : Prop := laws_markText.c n v.1 (fun r0 => K ⟨.c (.str r0), []⟩)
abbrev laws_markText.l4.s : ST := ⟨[(0, .c (.o (.int .i64))), (3, .c (.o .str))], [], [], [], []⟩
def laws_markText.l4.u (n : Nat) (v : laws_markText.l4.s.V) (K : X → St → Prop) : Prop := laws_markText.l4 n v.1.1 v.1.2.1 (fun y0 => K (.exit 0) ⟨[(3, .c (.str y0))], [], [], [], []⟩)
theorem laws_markText.l4_ok : ∀ n v K, laws_markText.l4.u n v K → loopM C X0 n 65 4 (laws_markText.l4.s.fill v) K :=
 loop_tell hX (fn := Tryz.f65) (c := bodyOf Tryz.f65) (a := loopOf Tryz.f65 4) (li := liOf (C.fi 65).loops 4) (by kernel_rfl) (by kernel_rfl) (of_decide_eq_true rfl) (by kernel_rfl) (by kernel_rfl) (T := laws_markText.l4.s) (u := laws_markText.l4.u) (fun _ _ h => h) (call := D52) (lp := fun n => noL) (D52_ok hX) (fun n => noL_ok) (fun n v K => by kernel_rfl)
theorem laws_markText_ok : ∀ n v K, laws_markText.u n v K → callM C X0 n 65 (fillA laws_markText.a v) K :=
 call_tell hX (fn := Tryz.f65) (c := bodyOf Tryz.f65) (by kernel_rfl) (by kernel_rfl) (A := laws_markText.a) (u := laws_markText.u) (fun _ _ h => h) (call := D52) (lp := fun n => orL 4 laws_markText.l4.s (laws_markText.l4.u n) noL) (D52_ok hX) (fun n => (orL_ok (laws_markText.l4_ok hX n) noL_ok)) (fun n v K => by kernel_rfl)
def D53 (n : Nat) : CallF := orC 65 laws_markText.a (laws_markText.u n) (D52 n)
theorem D53_ok : ∀ n g a K, D53 n g a K → callM C X0 n g a K := fun n => orC_ok (laws_markText_ok hX n) (D52_ok hX n)
abbrev laws_markDeclS.a : List TS := [.c (.o (.row 95 (.prod .str (.int .i64)) 99)), .c (.o (.int .i64))]
def laws_markDeclS.u (n : Nat) (v : VA laws_markDeclS.a) (K : RES → Prop) : Prop := laws_markDeclS.c n v.1 v.2.1 (fun r0 r1 => K ⟨.c (.int .i64 r0), [[.row ⟨95, .prod .str (.int .i64), r1, 99, none⟩]]⟩)
abbrev laws_markDeclS.l2.s : ST := ⟨[(0, .c (.o (.own 0))), (1, .c (.o (.int .i64))), (5, .c (.o (.int .i64)))], [⟨0, 95, .prod .str (.int .i64), 99⟩], [], [0], []⟩
def laws_markDeclS.l2.u (n : Nat) (v : laws_markDeclS.l2.s.V) (K : X → St → Prop) : Prop := laws_markDeclS.l2 n v.1.2.1 v.1.2.2.1 v.2.1.1 (fun y0 y1 => K (.exit 0) ⟨[(1, .c (.int .i64 y0))], [(0, ⟨95, .prod .str (.int .i64), y1, 99, none⟩)], [], [0], []⟩)
theorem laws_markDeclS.l2_ok : ∀ n v K, laws_markDeclS.l2.u n v K → loopM C X0 n 20 2 (laws_markDeclS.l2.s.fill v) K :=
 loop_tell hX (fn := Tryz.f20) (c := bodyOf Tryz.f20) (a := loopOf Tryz.f20 2) (li := liOf (C.fi 20).loops 2) (by kernel_rfl) (by kernel_rfl) (of_decide_eq_true rfl) (by kernel_rfl) (by kernel_rfl) (T := laws_markDeclS.l2.s) (u := laws_markDeclS.l2.u) (fun _ _ h => h) (call := D53) (lp := fun n => noL) (D53_ok hX) (fun n => noL_ok) (fun n v K => by kernel_rfl)
theorem laws_markDeclS_ok : ∀ n v K, laws_markDeclS.u n v K → callM C X0 n 20 (fillA laws_markDeclS.a v) K :=
 call_tell hX (fn := Tryz.f20) (c := bodyOf Tryz.f20) (by kernel_rfl) (by kernel_rfl) (A := laws_markDeclS.a) (u := laws_markDeclS.u) (fun _ _ h => h) (call := D53) (lp := fun n => orL 2 laws_markDeclS.l2.s (laws_markDeclS.l2.u n) noL) (D53_ok hX) (fun n => (orL_ok (laws_markDeclS.l2_ok hX n) noL_ok)) (fun n v K => by kernel_rfl)
def D54 (n : Nat) : CallF := orC 20 laws_markDeclS.a (laws_markDeclS.u n) (D53 n)
theorem D54_ok : ∀ n g a K, D54 n g a K → callM C X0 n g a K := fun n => orC_ok (laws_markDeclS_ok hX n) (D53_ok hX n)
abbrev laws_heldUint64S.a : List TS := [.c (.o (.dat 150 (.int .u64))), .c (.o (.int .i64))]
def laws_heldUint64S.u (n : Nat) (v : VA laws_heldUint64S.a) (K : RES → Prop) : Prop := laws_heldUint64S.c n v.1 v.2.1 (fun r0 => K ⟨.c (.int .i64 r0), []⟩)
abbrev laws_heldUint64S.l2.s : ST := ⟨[(0, .c (.o (.dat 150 (.int .u64)))), (1, .c (.o (.int .i64))), (5, .c (.o (.int .i64)))], [], [], [], []⟩
def laws_heldUint64S.l2.u (n : Nat) (v : laws_heldUint64S.l2.s.V) (K : X → St → Prop) : Prop := laws_heldUint64S.l2 n v.1.1 v.1.2.1 v.1.2.2.1 (fun y0 => K (.exit 0) ⟨[(1, .c (.int .i64 y0))], [], [], [], []⟩) (fun y0 => K .ret ⟨[(4, .c (.int .i64 y0))], [], [], [], []⟩)
theorem laws_heldUint64S.l2_ok : ∀ n v K, laws_heldUint64S.l2.u n v K → loopM C X0 n 68 2 (laws_heldUint64S.l2.s.fill v) K :=
 loop_tell hX (fn := Tryz.f68) (c := bodyOf Tryz.f68) (a := loopOf Tryz.f68 2) (li := liOf (C.fi 68).loops 2) (by kernel_rfl) (by kernel_rfl) (of_decide_eq_true rfl) (by kernel_rfl) (by kernel_rfl) (T := laws_heldUint64S.l2.s) (u := laws_heldUint64S.l2.u) (fun _ _ h => h) (call := D54) (lp := fun n => noL) (D54_ok hX) (fun n => noL_ok) (fun n v K => by kernel_rfl)
theorem laws_heldUint64S_ok : ∀ n v K, laws_heldUint64S.u n v K → callM C X0 n 68 (fillA laws_heldUint64S.a v) K :=
 call_tell hX (fn := Tryz.f68) (c := bodyOf Tryz.f68) (by kernel_rfl) (by kernel_rfl) (A := laws_heldUint64S.a) (u := laws_heldUint64S.u) (fun _ _ h => h) (call := D54) (lp := fun n => orL 2 laws_heldUint64S.l2.s (laws_heldUint64S.l2.u n) noL) (D54_ok hX) (fun n => (orL_ok (laws_heldUint64S.l2_ok hX n) noL_ok)) (fun n v K => by kernel_rfl)
def D55 (n : Nat) : CallF := orC 68 laws_heldUint64S.a (laws_heldUint64S.u n) (D54 n)
theorem D55_ok : ∀ n g a K, D55 n g a K → callM C X0 n g a K := fun n => orC_ok (laws_heldUint64S_ok hX n) (D54_ok hX n)
abbrev laws_szBinding.a : List TS := [.a [.o (.int .i64), .o (.dat 192 (.prod (.int .i64) (.prod (.int .i64) (.prod (.int .i64) (.prod (.int .i64) (.prod (.int .i64) (.prod (.sl 150 (.int .u64)) (.sl 2 (.int .i64)))))))))], .c (.o (.int .i64))]
def laws_szBinding.u (n : Nat) (v : VA laws_szBinding.a) (K : RES → Prop) : Prop := laws_szBinding.c n v.1.1 v.1.2.1 v.2.1 (fun r0 => K ⟨.c (.int .i64 r0), []⟩)
theorem laws_szBinding_ok : ∀ n v K, laws_szBinding.u n v K → callM C X0 n 47 (fillA laws_szBinding.a v) K :=
 call_tell hX (fn := Tryz.f47) (c := bodyOf Tryz.f47) (by kernel_rfl) (by kernel_rfl) (A := laws_szBinding.a) (u := laws_szBinding.u) (fun _ _ h => h) (call := D55) (lp := fun n => noL) (D55_ok hX) (fun n => noL_ok) (fun n v K => by kernel_rfl)
def D56 (n : Nat) : CallF := orC 47 laws_szBinding.a (laws_szBinding.u n) (D55 n)
theorem D56_ok : ∀ n g a K, D56 n g a K → callM C X0 n g a K := fun n => orC_ok (laws_szBinding_ok hX n) (D55_ok hX n)
abbrev laws_szBindingS.a : List TS := [.c (.o (.dat 80 (.prod (.int .i64) (.sl 192 (.prod (.int .i64) (.prod (.int .i64) (.prod (.int .i64) (.prod (.int .i64) (.prod (.int .i64) (.prod (.sl 150 (.int .u64)) (.sl 2 (.int .i64)))))))))))), .c (.o (.int .i64))]
def laws_szBindingS.u (n : Nat) (v : VA laws_szBindingS.a) (K : RES → Prop) : Prop := laws_szBindingS.c n v.1 v.2.1 (fun r0 => K ⟨.c (.int .i64 r0), []⟩)
abbrev laws_szBindingS.l5.s : ST := ⟨[(0, .c (.o (.dat 80 (.prod (.int .i64) (.sl 192 (.prod (.int .i64) (.prod (.int .i64) (.prod (.int .i64) (.prod (.int .i64) (.prod (.int .i64) (.prod (.sl 150 (.int .u64)) (.sl 2 (.int .i64))))))))))))), (1, .c (.o (.int .i64))), (5, .c (.o (.int .i64)))], [], [], [], []⟩
def laws_szBindingS.l5.u (n : Nat) (v : laws_szBindingS.l5.s.V) (K : X → St → Prop) : Prop := laws_szBindingS.l5 n v.1.1 v.1.2.1 v.1.2.2.1 (fun y0 => K (.exit 0) ⟨[(1, .c (.int .i64 y0))], [], [], [], []⟩) (fun y0 => K .ret ⟨[(4, .c (.int .i64 y0))], [], [], [], []⟩)
theorem laws_szBindingS.l5_ok : ∀ n v K, laws_szBindingS.l5.u n v K → loopM C X0 n 10 5 (laws_szBindingS.l5.s.fill v) K :=
 loop_tell hX (fn := Tryz.f10) (c := bodyOf Tryz.f10) (a := loopOf Tryz.f10 5) (li := liOf (C.fi 10).loops 5) (by kernel_rfl) (by kernel_rfl) (of_decide_eq_true rfl) (by kernel_rfl) (by kernel_rfl) (T := laws_szBindingS.l5.s) (u := laws_szBindingS.l5.u) (fun _ _ h => h) (call := D56) (lp := fun n => noL) (D56_ok hX) (fun n => noL_ok) (fun n v K => by kernel_rfl)
theorem laws_szBindingS_ok : ∀ n v K, laws_szBindingS.u n v K → callM C X0 n 10 (fillA laws_szBindingS.a v) K :=
 call_tell hX (fn := Tryz.f10) (c := bodyOf Tryz.f10) (by kernel_rfl) (by kernel_rfl) (A := laws_szBindingS.a) (u := laws_szBindingS.u) (fun _ _ h => h) (call := D56) (lp := fun n => orL 5 laws_szBindingS.l5.s (laws_szBindingS.l5.u n) noL) (D56_ok hX) (fun n => (orL_ok (laws_szBindingS.l5_ok hX n) noL_ok)) (fun n v K => by kernel_rfl)
def D57 (n : Nat) : CallF := orC 10 laws_szBindingS.a (laws_szBindingS.u n) (D56 n)
theorem D57_ok : ∀ n g a K, D57 n g a K → callM C X0 n g a K := fun n => orC_ok (laws_szBindingS_ok hX n) (D56_ok hX n)
abbrev laws_szBitsS.a : List TS := [.c (.o (.dat 84 (.prod (.int .i64) (.sl 150 (.int .u64))))), .c (.o (.int .i64))]
def laws_szBitsS.u (n : Nat) (v : VA laws_szBitsS.a) (K : RES → Prop) : Prop := laws_szBitsS.c n v.1 v.2.1 (fun r0 => K ⟨.c (.int .i64 r0), []⟩)
abbrev laws_szBitsS.l5.s : ST := ⟨[(0, .c (.o (.dat 84 (.prod (.int .i64) (.sl 150 (.int .u64)))))), (1, .c (.o (.int .i64))), (5, .c (.o (.int .i64)))], [], [], [], []⟩
def laws_szBitsS.l5.u (n : Nat) (v : laws_szBitsS.l5.s.V) (K : X → St → Prop) : Prop := laws_szBitsS.l5 n v.1.1 v.1.2.1 v.1.2.2.1 (fun y0 => K (.exit 0) ⟨[(1, .c (.int .i64 y0))], [], [], [], []⟩) (fun y0 => K .ret ⟨[(4, .c (.int .i64 y0))], [], [], [], []⟩)
theorem laws_szBitsS.l5_ok : ∀ n v K, laws_szBitsS.l5.u n v K → loopM C X0 n 11 5 (laws_szBitsS.l5.s.fill v) K :=
 loop_tell hX (fn := Tryz.f11) (c := bodyOf Tryz.f11) (a := loopOf Tryz.f11 5) (li := liOf (C.fi 11).loops 5) (by kernel_rfl) (by kernel_rfl) (of_decide_eq_true rfl) (by kernel_rfl) (by kernel_rfl) (T := laws_szBitsS.l5.s) (u := laws_szBitsS.l5.u) (fun _ _ h => h) (call := D57) (lp := fun n => noL) (D57_ok hX) (fun n => noL_ok) (fun n v K => by kernel_rfl)
theorem laws_szBitsS_ok : ∀ n v K, laws_szBitsS.u n v K → callM C X0 n 11 (fillA laws_szBitsS.a v) K :=
 call_tell hX (fn := Tryz.f11) (c := bodyOf Tryz.f11) (by kernel_rfl) (by kernel_rfl) (A := laws_szBitsS.a) (u := laws_szBitsS.u) (fun _ _ h => h) (call := D57) (lp := fun n => orL 5 laws_szBitsS.l5.s (laws_szBitsS.l5.u n) noL) (D57_ok hX) (fun n => (orL_ok (laws_szBitsS.l5_ok hX n) noL_ok)) (fun n v K => by kernel_rfl)
def D58 (n : Nat) : CallF := orC 11 laws_szBitsS.a (laws_szBitsS.u n) (D57 n)
theorem D58_ok : ∀ n g a K, D58 n g a K → callM C X0 n g a K := fun n => orC_ok (laws_szBitsS_ok hX n) (D57_ok hX n)
abbrev laws_toBinding.a : List TS := [.a [.o (.int .i64), .o (.dat 192 (.prod (.int .i64) (.prod (.int .i64) (.prod (.int .i64) (.prod (.int .i64) (.prod (.int .i64) (.prod (.sl 150 (.int .u64)) (.sl 2 (.int .i64)))))))))]]
def laws_toBinding.u (n : Nat) (v : VA laws_toBinding.a) (K : RES → Prop) : Prop := laws_toBinding.c n v.1.1 v.1.2.1 (fun r0 r1 => K ⟨.agg [.int .i64 r0, .row ⟨145, .prod (.int .i64) (.prod (.int .i64) (.prod (.int .i64) (.prod (.int .i64) (.prod (.int .i64) (.prod (.sl 150 (.int .u64)) (.sl 2 (.int .i64))))))), r1, 99, none⟩], []⟩)
theorem laws_toBinding_ok : ∀ n v K, laws_toBinding.u n v K → callM C X0 n 54 (fillA laws_toBinding.a v) K :=
 call_tell hX (fn := Tryz.f54) (c := bodyOf Tryz.f54) (by kernel_rfl) (by kernel_rfl) (A := laws_toBinding.a) (u := laws_toBinding.u) (fun _ _ h => h) (call := D58) (lp := fun n => noL) (D58_ok hX) (fun n => noL_ok) (fun n v K => by kernel_rfl)
def D59 (n : Nat) : CallF := orC 54 laws_toBinding.a (laws_toBinding.u n) (D58 n)
theorem D59_ok : ∀ n g a K, D59 n g a K → callM C X0 n g a K := fun n => orC_ok (laws_toBinding_ok hX n) (D58_ok hX n)
abbrev laws_toBindingS.a : List TS := [.c (.o (.dat 80 (.prod (.int .i64) (.sl 192 (.prod (.int .i64) (.prod (.int .i64) (.prod (.int .i64) (.prod (.int .i64) (.prod (.int .i64) (.prod (.sl 150 (.int .u64)) (.sl 2 (.int .i64))))))))))))]
def laws_toBindingS.u (n : Nat) (v : VA laws_toBindingS.a) (K : RES → Prop) : Prop := laws_toBindingS.c n v.1 (fun r0 => K ⟨.c (.row ⟨91, .prod (.int .i64) (.sl 145 (.prod (.int .i64) (.prod (.int .i64) (.prod (.int .i64) (.prod (.int .i64) (.prod (.int .i64) (.prod (.sl 150 (.int .u64)) (.sl 2 (.int .i64))))))))), r0, 99, none⟩), []⟩)
abbrev laws_toBindingS.l3.s : ST := ⟨[(0, .c (.o (.dat 80 (.prod (.int .i64) (.sl 192 (.prod (.int .i64) (.prod (.int .i64) (.prod (.int .i64) (.prod (.int .i64) (.prod (.int .i64) (.prod (.sl 150 (.int .u64)) (.sl 2 (.int .i64))))))))))))), (3, .c (.o (.own 224))), (4, .c (.o (.int .i64)))], [⟨224, 91, .prod (.int .i64) (.sl 145 (.prod (.int .i64) (.prod (.int .i64) (.prod (.int .i64) (.prod (.int .i64) (.prod (.int .i64) (.prod (.sl 150 (.int .u64)) (.sl 2 (.int .i64))))))))), 99⟩], [], [], []⟩
def laws_toBindingS.l3.u (n : Nat) (v : laws_toBindingS.l3.s.V) (K : X → St → Prop) : Prop := laws_toBindingS.l3 n v.1.1 v.1.2.2.1 v.2.1.1 (fun y0 => K (.exit 0) ⟨[(3, .c (.own 224))], [(224, ⟨91, .prod (.int .i64) (.sl 145 (.prod (.int .i64) (.prod (.int .i64) (.prod (.int .i64) (.prod (.int .i64) (.prod (.int .i64) (.prod (.sl 150 (.int .u64)) (.sl 2 (.int .i64))))))))), y0, 99, none⟩)], [], [], []⟩)
theorem laws_toBindingS.l3_ok : ∀ n v K, laws_toBindingS.l3.u n v K → loopM C X0 n 14 3 (laws_toBindingS.l3.s.fill v) K :=
 loop_tell hX (fn := Tryz.f14) (c := bodyOf Tryz.f14) (a := loopOf Tryz.f14 3) (li := liOf (C.fi 14).loops 3) (by kernel_rfl) (by kernel_rfl) (of_decide_eq_true rfl) (by kernel_rfl) (by kernel_rfl) (T := laws_toBindingS.l3.s) (u := laws_toBindingS.l3.u) (fun _ _ h => h) (call := D59) (lp := fun n => noL) (D59_ok hX) (fun n => noL_ok) (fun n v K => by kernel_rfl)
theorem laws_toBindingS_ok : ∀ n v K, laws_toBindingS.u n v K → callM C X0 n 14 (fillA laws_toBindingS.a v) K :=
 call_tell hX (fn := Tryz.f14) (c := bodyOf Tryz.f14) (by kernel_rfl) (by kernel_rfl) (A := laws_toBindingS.a) (u := laws_toBindingS.u) (fun _ _ h => h) (call := D59) (lp := fun n => orL 3 laws_toBindingS.l3.s (laws_toBindingS.l3.u n) noL) (D59_ok hX) (fun n => (orL_ok (laws_toBindingS.l3_ok hX n) noL_ok)) (fun n v K => by kernel_rfl)
def D60 (n : Nat) : CallF := orC 14 laws_toBindingS.a (laws_toBindingS.u n) (D59 n)
theorem D60_ok : ∀ n g a K, D60 n g a K → callM C X0 n g a K := fun n => orC_ok (laws_toBindingS_ok hX n) (D59_ok hX n)
abbrev laws_toBitsS.a : List TS := [.c (.o (.dat 84 (.prod (.int .i64) (.sl 150 (.int .u64)))))]
def laws_toBitsS.u (n : Nat) (v : VA laws_toBitsS.a) (K : RES → Prop) : Prop := laws_toBitsS.c n v.1 (fun r0 => K ⟨.c (.row ⟨92, .prod (.int .i64) (.sl 150 (.int .u64)), r0, 99, none⟩), []⟩)
abbrev laws_toBitsS.l3.s : ST := ⟨[(0, .c (.o (.dat 84 (.prod (.int .i64) (.sl 150 (.int .u64)))))), (3, .c (.o (.own 224))), (4, .c (.o (.int .i64)))], [⟨224, 92, .prod (.int .i64) (.sl 150 (.int .u64)), 99⟩], [], [], []⟩
def laws_toBitsS.l3.u (n : Nat) (v : laws_toBitsS.l3.s.V) (K : X → St → Prop) : Prop := laws_toBitsS.l3 n v.1.1 v.1.2.2.1 v.2.1.1 (fun y0 => K (.exit 0) ⟨[(3, .c (.own 224))], [(224, ⟨92, .prod (.int .i64) (.sl 150 (.int .u64)), y0, 99, none⟩)], [], [], []⟩)
theorem laws_toBitsS.l3_ok : ∀ n v K, laws_toBitsS.l3.u n v K → loopM C X0 n 15 3 (laws_toBitsS.l3.s.fill v) K :=
 loop_tell hX (fn := Tryz.f15) (c := bodyOf Tryz.f15) (a := loopOf Tryz.f15 3) (li := liOf (C.fi 15).loops 3) (by kernel_rfl) (by kernel_rfl) (of_decide_eq_true rfl) (by kernel_rfl) (by kernel_rfl) (T := laws_toBitsS.l3.s) (u := laws_toBitsS.l3.u) (fun _ _ h => h) (call := D60) (lp := fun n => noL) (D60_ok hX) (fun n => noL_ok) (fun n v K => by kernel_rfl)
theorem laws_toBitsS_ok : ∀ n v K, laws_toBitsS.u n v K → callM C X0 n 15 (fillA laws_toBitsS.a v) K :=
 call_tell hX (fn := Tryz.f15) (c := bodyOf Tryz.f15) (by kernel_rfl) (by kernel_rfl) (A := laws_toBitsS.a) (u := laws_toBitsS.u) (fun _ _ h => h) (call := D60) (lp := fun n => orL 3 laws_toBitsS.l3.s (laws_toBitsS.l3.u n) noL) (D60_ok hX) (fun n => (orL_ok (laws_toBitsS.l3_ok hX n) noL_ok)) (fun n v K => by kernel_rfl)
def D61 (n : Nat) : CallF := orC 15 laws_toBitsS.a (laws_toBitsS.u n) (D60 n)
theorem D61_ok : ∀ n g a K, D61 n g a K → callM C X0 n g a K := fun n => orC_ok (laws_toBitsS_ok hX n) (D60_ok hX n)
abbrev spec_ValuesOk.a : List TS := [.c (.o (.dat 95 (.prod .str (.int .i64)))), .c (.o (.dat 92 (.prod (.int .i64) (.sl 150 (.int .u64)))))]
def spec_ValuesOk.u (n : Nat) (v : VA spec_ValuesOk.a) (K : RES → Prop) : Prop := spec_ValuesOk.c n v.1 v.2.1 (fun r0 => K ⟨.c (.bool r0), []⟩)
abbrev spec_ValuesOk.l4.s : ST := ⟨[(0, .c (.o (.dat 95 (.prod .str (.int .i64))))), (1, .c (.o (.dat 92 (.prod (.int .i64) (.sl 150 (.int .u64)))))), (5, .c (.o (.int .i64)))], [], [], [], []⟩
def spec_ValuesOk.l4.u (n : Nat) (v : spec_ValuesOk.l4.s.V) (K : X → St → Prop) : Prop := spec_ValuesOk.l4 n v.1.1 v.1.2.1 v.1.2.2.1 (K (.exit 0) ⟨[], [], [], [], []⟩) (fun y0 => K .ret ⟨[(4, .c (.bool y0))], [], [], [], []⟩)
theorem spec_ValuesOk.l4_ok : ∀ n v K, spec_ValuesOk.l4.u n v K → loopM C X0 n 49 4 (spec_ValuesOk.l4.s.fill v) K :=
 loop_tell hX (fn := Tryz.f49) (c := bodyOf Tryz.f49) (a := loopOf Tryz.f49 4) (li := liOf (C.fi 49).loops 4) (by kernel_rfl) (by kernel_rfl) (of_decide_eq_true rfl) (by kernel_rfl) (by kernel_rfl) (T := spec_ValuesOk.l4.s) (u := spec_ValuesOk.l4.u) (fun _ _ h => h) (call := D61) (lp := fun n => noL) (D61_ok hX) (fun n => noL_ok) (fun n v K => by kernel_rfl)
theorem spec_ValuesOk_ok : ∀ n v K, spec_ValuesOk.u n v K → callM C X0 n 49 (fillA spec_ValuesOk.a v) K :=
 call_tell hX (fn := Tryz.f49) (c := bodyOf Tryz.f49) (by kernel_rfl) (by kernel_rfl) (A := spec_ValuesOk.a) (u := spec_ValuesOk.u) (fun _ _ h => h) (call := D61) (lp := fun n => orL 4 spec_ValuesOk.l4.s (spec_ValuesOk.l4.u n) noL) (D61_ok hX) (fun n => (orL_ok (spec_ValuesOk.l4_ok hX n) noL_ok)) (fun n v K => by kernel_rfl)
def D62 (n : Nat) : CallF := orC 49 spec_ValuesOk.a (spec_ValuesOk.u n) (D61 n)
theorem D62_ok : ∀ n g a K, D62 n g a K → callM C X0 n g a K := fun n => orC_ok (spec_ValuesOk_ok hX n) (D61_ok hX n)
abbrev spec_l16Fits.a : List TS := [.c (.o (.dat 95 (.prod .str (.int .i64)))), .a [.o (.int .i64), .o (.dat 145 (.prod (.int .i64) (.prod (.int .i64) (.prod (.int .i64) (.prod (.int .i64) (.prod (.int .i64) (.prod (.sl 150 (.int .u64)) (.sl 2 (.int .i64)))))))))]]
def spec_l16Fits.u (n : Nat) (v : VA spec_l16Fits.a) (K : RES → Prop) : Prop := spec_l16Fits.c n v.1 v.2.1.1 v.2.1.2.1 (fun r0 => K ⟨.c (.bool r0), []⟩)
theorem spec_l16Fits_ok : ∀ n v K, spec_l16Fits.u n v K → callM C X0 n 50 (fillA spec_l16Fits.a v) K :=
 call_tell hX (fn := Tryz.f50) (c := bodyOf Tryz.f50) (by kernel_rfl) (by kernel_rfl) (A := spec_l16Fits.a) (u := spec_l16Fits.u) (fun _ _ h => h) (call := D62) (lp := fun n => noL) (D62_ok hX) (fun n => noL_ok) (fun n v K => by kernel_rfl)
def D63 (n : Nat) : CallF := orC 50 spec_l16Fits.a (spec_l16Fits.u n) (D62 n)
theorem D63_ok : ∀ n g a K, D63 n g a K → callM C X0 n g a K := fun n => orC_ok (spec_l16Fits_ok hX n) (D62_ok hX n)
abbrev spec_l8CopyBits.a : List TS := [.a [.o (.int .i64), .o (.dat 150 (.int .u64))]]
def spec_l8CopyBits.u (n : Nat) (v : VA spec_l8CopyBits.a) (K : RES → Prop) : Prop := spec_l8CopyBits.c n v.1.1 v.1.2.1 (fun r0 r1 => K ⟨.agg [.int .i64 r0, .row ⟨150, .int .u64, r1, 99, none⟩], []⟩)
theorem spec_l8CopyBits_ok : ∀ n v K, spec_l8CopyBits.u n v K → callM C X0 n 51 (fillA spec_l8CopyBits.a v) K :=
 call_tell hX (fn := Tryz.f51) (c := bodyOf Tryz.f51) (by kernel_rfl) (by kernel_rfl) (A := spec_l8CopyBits.a) (u := spec_l8CopyBits.u) (fun _ _ h => h) (call := D63) (lp := fun n => noL) (D63_ok hX) (fun n => noL_ok) (fun n v K => by kernel_rfl)
def D64 (n : Nat) : CallF := orC 51 spec_l8CopyBits.a (spec_l8CopyBits.u n) (D63 n)
theorem D64_ok : ∀ n g a K, D64 n g a K → callM C X0 n g a K := fun n => orC_ok (spec_l8CopyBits_ok hX n) (D63_ok hX n)
abbrev spec_l1List.a : List TS := [.a [.o (.int .i64), .o (.dat 150 (.int .u64))]]
def spec_l1List.u (n : Nat) (v : VA spec_l1List.a) (K : RES → Prop) : Prop := spec_l1List.c n v.1.1 v.1.2.1 (fun r0 => K ⟨.c (.row ⟨5, .int .u8, r0, 99, none⟩), []⟩)
abbrev spec_l1List.l3.s : ST := ⟨[(1, .c (.o (.pbox 1 0))), (3, .c (.o (.own 96))), (4, .c (.o (.int .i64)))], [⟨96, 5, .int .u8, 99⟩], [⟨1, 92, [.o (.int .i64), .o (.dat 150 (.int .u64))], false⟩], [], []⟩
def spec_l1List.l3.u (n : Nat) (v : spec_l1List.l3.s.V) (K : X → St → Prop) : Prop := spec_l1List.l3 n v.2.2.1.1 v.2.2.1.2.1 v.1.2.2.1 v.2.1.1 (fun y0 => K (.exit 0) ⟨[(3, .c (.own 96))], [(96, ⟨5, .int .u8, y0, 99, none⟩)], [], [], []⟩)
theorem spec_l1List.l3_ok : ∀ n v K, spec_l1List.l3.u n v K → loopM C X0 n 167 3 (spec_l1List.l3.s.fill v) K :=
 loop_tell hX (fn := Tryz.f167) (c := bodyOf Tryz.f167) (a := loopOf Tryz.f167 3) (li := liOf (C.fi 167).loops 3) (by kernel_rfl) (by kernel_rfl) (of_decide_eq_true rfl) (by kernel_rfl) (by kernel_rfl) (T := spec_l1List.l3.s) (u := spec_l1List.l3.u) (fun _ _ h => h) (call := D64) (lp := fun n => noL) (D64_ok hX) (fun n => noL_ok) (fun n v K => by kernel_rfl)
theorem spec_l1List_ok : ∀ n v K, spec_l1List.u n v K → callM C X0 n 167 (fillA spec_l1List.a v) K :=
 call_tell hX (fn := Tryz.f167) (c := bodyOf Tryz.f167) (by kernel_rfl) (by kernel_rfl) (A := spec_l1List.a) (u := spec_l1List.u) (fun _ _ h => h) (call := D64) (lp := fun n => orL 3 spec_l1List.l3.s (spec_l1List.l3.u n) noL) (D64_ok hX) (fun n => (orL_ok (spec_l1List.l3_ok hX n) noL_ok)) (fun n v K => by kernel_rfl)
def D65 (n : Nat) : CallF := orC 167 spec_l1List.a (spec_l1List.u n) (D64 n)
theorem D65_ok : ∀ n g a K, D65 n g a K → callM C X0 n g a K := fun n => orC_ok (spec_l1List_ok hX n) (D64_ok hX n)
abbrev spec_l1From.a : List TS := [.c (.o (.dat 5 (.int .u8)))]
def spec_l1From.u (n : Nat) (v : VA spec_l1From.a) (K : RES → Prop) : Prop := spec_l1From.c n v.1 (fun r0 r1 r2 => K ⟨.tup [.agg [.int .i64 r0, .row ⟨150, .int .u64, r1, 99, none⟩], .c (.bool r2)], []⟩)
abbrev spec_l1From.l5.s : ST := ⟨[(0, .c (.o (.dat 5 (.int .u8)))), (2, .c (.o (.pbox 2 0))), (4, .c (.o (.pbox 4 0))), (5, .c (.o (.int .i64)))], [⟨672, 150, .int .u64, 99⟩, ⟨1000065, 150, .int .u64, 99⟩], [⟨2, 92, [.o (.int .i64), .o (.own 1000065)], false⟩, ⟨4, 92, [.o (.int .i64), .o (.own 672)], false⟩], [], []⟩
def spec_l1From.l5.u (n : Nat) (v : spec_l1From.l5.s.V) (K : X → St → Prop) : Prop := spec_l1From.l5 n v.1.1 v.2.1.2.1 v.2.2.1.1 v.2.2.2.1.1 v.1.2.2.2.1 v.2.1.1 (fun y0 y1 y2 y3 => K (.exit 0) ⟨[(2, .c (.pbox 2 0)), (4, .c (.pbox 4 0))], [(672, ⟨150, .int .u64, y0, 99, none⟩), (1000065, ⟨150, .int .u64, y1, 99, none⟩)], [(2, ⟨92, [.int .i64 y2, .own 1000065], false⟩), (4, ⟨92, [.int .i64 y3, .own 672], false⟩)], [], []⟩)
theorem spec_l1From.l5_ok : ∀ n v K, spec_l1From.l5.u n v K → loopM C X0 n 162 5 (spec_l1From.l5.s.fill v) K :=
 loop_tell hX (fn := Tryz.f162) (c := bodyOf Tryz.f162) (a := loopOf Tryz.f162 5) (li := liOf (C.fi 162).loops 5) (by kernel_rfl) (by kernel_rfl) (of_decide_eq_true rfl) (by kernel_rfl) (by kernel_rfl) (T := spec_l1From.l5.s) (u := spec_l1From.l5.u) (fun _ _ h => h) (call := D65) (lp := fun n => noL) (D65_ok hX) (fun n => noL_ok) (fun n v K => by kernel_rfl)
theorem spec_l1From_ok : ∀ n v K, spec_l1From.u n v K → callM C X0 n 162 (fillA spec_l1From.a v) K :=
 call_tell hX (fn := Tryz.f162) (c := bodyOf Tryz.f162) (by kernel_rfl) (by kernel_rfl) (A := spec_l1From.a) (u := spec_l1From.u) (fun _ _ h => h) (call := D65) (lp := fun n => orL 5 spec_l1From.l5.s (spec_l1From.l5.u n) noL) (D65_ok hX) (fun n => (orL_ok (spec_l1From.l5_ok hX n) noL_ok)) (fun n v K => by kernel_rfl)
def D66 (n : Nat) : CallF := orC 162 spec_l1From.a (spec_l1From.u n) (D65 n)
theorem D66_ok : ∀ n g a K, D66 n g a K → callM C X0 n g a K := fun n => orC_ok (spec_l1From_ok hX n) (D65_ok hX n)
abbrev spec_JoinBits.a : List TS := [.a [.o (.int .i64), .o (.dat 150 (.int .u64))], .a [.o (.int .i64), .o (.dat 150 (.int .u64))]]
def spec_JoinBits.u (n : Nat) (v : VA spec_JoinBits.a) (K : RES → Prop) : Prop := spec_JoinBits.c n v.1.1 v.1.2.1 v.2.1.1 v.2.1.2.1 (fun r0 r1 r2 => K ⟨.tup [.agg [.int .i64 r0, .row ⟨150, .int .u64, r1, 99, none⟩], .c (.bool r2)], []⟩)
theorem spec_JoinBits_ok : ∀ n v K, spec_JoinBits.u n v K → callM C X0 n 144 (fillA spec_JoinBits.a v) K :=
 call_tell hX (fn := Tryz.f144) (c := bodyOf Tryz.f144) (by kernel_rfl) (by kernel_rfl) (A := spec_JoinBits.a) (u := spec_JoinBits.u) (fun _ _ h => h) (call := D66) (lp := fun n => noL) (D66_ok hX) (fun n => noL_ok) (fun n v K => by kernel_rfl)
def D67 (n : Nat) : CallF := orC 144 spec_JoinBits.a (spec_JoinBits.u n) (D66 n)
theorem D67_ok : ∀ n g a K, D67 n g a K → callM C X0 n g a K := fun n => orC_ok (spec_JoinBits_ok hX n) (D66_ok hX n)
abbrev spec_PartOf.a : List TS := [.a [.o (.int .i64), .o (.dat 150 (.int .u64))], .c (.o (.int .i64)), .c (.o (.int .i64))]
def spec_PartOf.u (n : Nat) (v : VA spec_PartOf.a) (K : RES → Prop) : Prop := spec_PartOf.c n v.1.1 v.1.2.1 v.2.1 v.2.2.1 (fun r0 r1 r2 => K ⟨.tup [.agg [.int .i64 r0, .row ⟨150, .int .u64, r1, 99, none⟩], .c (.bool r2)], []⟩)
theorem spec_PartOf_ok : ∀ n v K, spec_PartOf.u n v K → callM C X0 n 145 (fillA spec_PartOf.a v) K :=
 call_tell hX (fn := Tryz.f145) (c := bodyOf Tryz.f145) (by kernel_rfl) (by kernel_rfl) (A := spec_PartOf.a) (u := spec_PartOf.u) (fun _ _ h => h) (call := D67) (lp := fun n => noL) (D67_ok hX) (fun n => noL_ok) (fun n v K => by kernel_rfl)
def D68 (n : Nat) : CallF := orC 145 spec_PartOf.a (spec_PartOf.u n) (D67 n)
theorem D68_ok : ∀ n g a K, D68 n g a K → callM C X0 n g a K := fun n => orC_ok (spec_PartOf_ok hX n) (D67_ok hX n)
abbrev spec_WidenBits.a : List TS := [.a [.o (.int .i64), .o (.dat 150 (.int .u64))], .c (.o (.int .i64)), .c (.o .bool)]
def spec_WidenBits.u (n : Nat) (v : VA spec_WidenBits.a) (K : RES → Prop) : Prop := spec_WidenBits.c n v.1.1 v.1.2.1 v.2.1 v.2.2.1 (fun r0 r1 r2 => K ⟨.tup [.agg [.int .i64 r0, .row ⟨150, .int .u64, r1, 99, none⟩], .c (.bool r2)], []⟩)
abbrev spec_WidenBits.l8.s : ST := ⟨[(1, .c (.o (.int .i64))), (6, .c (.o (.pbox 6 0))), (8, .c (.o (.own 256))), (9, .c (.o (.int .u8))), (10, .c (.o (.int .i64)))], [⟨256, 5, .int .u8, 99⟩, ⟨1000193, 150, .int .u64, 99⟩], [⟨6, 92, [.o (.int .i64), .o (.own 1000193)], false⟩], [], []⟩
def spec_WidenBits.l8.u (n : Nat) (v : spec_WidenBits.l8.s.V) (K : X → St → Prop) : Prop := spec_WidenBits.l8 n v.1.1 v.1.2.2.2.1 v.2.1.2.1 v.2.2.1.1 v.1.2.2.2.2.1 v.2.1.1 (fun y0 y1 y2 => K (.exit 0) ⟨[(6, .c (.pbox 6 0)), (8, .c (.own 256))], [(256, ⟨5, .int .u8, y0, 99, none⟩), (1000193, ⟨150, .int .u64, y1, 99, none⟩)], [(6, ⟨92, [.int .i64 y2, .own 1000193], false⟩)], [], []⟩)
theorem spec_WidenBits.l8_ok : ∀ n v K, spec_WidenBits.l8.u n v K → loopM C X0 n 146 8 (spec_WidenBits.l8.s.fill v) K :=
 loop_tell hX (fn := Tryz.f146) (c := bodyOf Tryz.f146) (a := loopOf Tryz.f146 8) (li := liOf (C.fi 146).loops 8) (by kernel_rfl) (by kernel_rfl) (of_decide_eq_true rfl) (by kernel_rfl) (by kernel_rfl) (T := spec_WidenBits.l8.s) (u := spec_WidenBits.l8.u) (fun _ _ h => h) (call := D68) (lp := fun n => noL) (D68_ok hX) (fun n => noL_ok) (fun n v K => by kernel_rfl)
theorem spec_WidenBits_ok : ∀ n v K, spec_WidenBits.u n v K → callM C X0 n 146 (fillA spec_WidenBits.a v) K :=
 call_tell hX (fn := Tryz.f146) (c := bodyOf Tryz.f146) (by kernel_rfl) (by kernel_rfl) (A := spec_WidenBits.a) (u := spec_WidenBits.u) (fun _ _ h => h) (call := D68) (lp := fun n => orL 8 spec_WidenBits.l8.s (spec_WidenBits.l8.u n) noL) (D68_ok hX) (fun n => (orL_ok (spec_WidenBits.l8_ok hX n) noL_ok)) (fun n v K => by kernel_rfl)
def D69 (n : Nat) : CallF := orC 146 spec_WidenBits.a (spec_WidenBits.u n) (D68 n)
theorem D69_ok : ∀ n g a K, D69 n g a K → callM C X0 n g a K := fun n => orC_ok (spec_WidenBits_ok hX n) (D68_ok hX n)
abbrev spec_TurnBits.a : List TS := [.a [.o (.int .i64), .o (.dat 150 (.int .u64))], .c (.o (.int .i64))]
def spec_TurnBits.u (n : Nat) (v : VA spec_TurnBits.a) (K : RES → Prop) : Prop := spec_TurnBits.c n v.1.1 v.1.2.1 v.2.1 (fun r0 r1 r2 => K ⟨.tup [.agg [.int .i64 r0, .row ⟨150, .int .u64, r1, 99, none⟩], .c (.bool r2)], []⟩)
abbrev spec_TurnBits.l6.s : ST := ⟨[(1, .c (.o (.int .i64))), (4, .c (.o (.pbox 4 0))), (6, .c (.o (.own 608))), (7, .c (.o (.own 704))), (8, .c (.o (.int .i64)))], [⟨608, 5, .int .u8, 99⟩, ⟨704, 5, .int .u8, 99⟩, ⟨1000129, 150, .int .u64, 99⟩], [⟨4, 92, [.o (.int .i64), .o (.own 1000129)], false⟩], [], []⟩
def spec_TurnBits.l6.u (n : Nat) (v : spec_TurnBits.l6.s.V) (K : X → St → Prop) : Prop := spec_TurnBits.l6 n v.1.1 v.2.1.1 v.2.1.2.2.1 v.2.2.1.1 v.1.2.2.2.2.1 v.2.1.2.1 (fun y0 y1 y2 => K (.exit 0) ⟨[(4, .c (.pbox 4 0)), (7, .c (.own 704))], [(704, ⟨5, .int .u8, y0, 99, none⟩), (1000129, ⟨150, .int .u64, y1, 99, none⟩)], [(4, ⟨92, [.int .i64 y2, .own 1000129], false⟩)], [], []⟩)
theorem spec_TurnBits.l6_ok : ∀ n v K, spec_TurnBits.l6.u n v K → loopM C X0 n 147 6 (spec_TurnBits.l6.s.fill v) K :=
 loop_tell hX (fn := Tryz.f147) (c := bodyOf Tryz.f147) (a := loopOf Tryz.f147 6) (li := liOf (C.fi 147).loops 6) (by kernel_rfl) (by kernel_rfl) (of_decide_eq_true rfl) (by kernel_rfl) (by kernel_rfl) (T := spec_TurnBits.l6.s) (u := spec_TurnBits.l6.u) (fun _ _ h => h) (call := D69) (lp := fun n => noL) (D69_ok hX) (fun n => noL_ok) (fun n v K => by kernel_rfl)
theorem spec_TurnBits_ok : ∀ n v K, spec_TurnBits.u n v K → callM C X0 n 147 (fillA spec_TurnBits.a v) K :=
 call_tell hX (fn := Tryz.f147) (c := bodyOf Tryz.f147) (by kernel_rfl) (by kernel_rfl) (A := spec_TurnBits.a) (u := spec_TurnBits.u) (fun _ _ h => h) (call := D69) (lp := fun n => orL 6 spec_TurnBits.l6.s (spec_TurnBits.l6.u n) noL) (D69_ok hX) (fun n => (orL_ok (spec_TurnBits.l6_ok hX n) noL_ok)) (fun n v K => by kernel_rfl)
def D70 (n : Nat) : CallF := orC 147 spec_TurnBits.a (spec_TurnBits.u n) (D69 n)
theorem D70_ok : ∀ n g a K, D70 n g a K → callM C X0 n g a K := fun n => orC_ok (spec_TurnBits_ok hX n) (D69_ok hX n)
abbrev spec_RepeatBits.a : List TS := [.a [.o (.int .i64), .o (.dat 150 (.int .u64))], .c (.o (.int .i64))]
def spec_RepeatBits.u (n : Nat) (v : VA spec_RepeatBits.a) (K : RES → Prop) : Prop := spec_RepeatBits.c n v.1.1 v.1.2.1 v.2.1 (fun r0 r1 r2 => K ⟨.tup [.agg [.int .i64 r0, .row ⟨150, .int .u64, r1, 99, none⟩], .c (.bool r2)], []⟩)
abbrev spec_RepeatBits.l6.s : ST := ⟨[(1, .c (.o (.int .i64))), (4, .c (.o (.pbox 4 0))), (6, .c (.o (.own 832))), (7, .c (.o (.own 224))), (8, .c (.o (.int .i64)))], [⟨224, 5, .int .u8, 99⟩, ⟨832, 5, .int .u8, 99⟩, ⟨1000129, 150, .int .u64, 99⟩], [⟨4, 92, [.o (.int .i64), .o (.own 1000129)], false⟩], [], []⟩
def spec_RepeatBits.l6.u (n : Nat) (v : spec_RepeatBits.l6.s.V) (K : X → St → Prop) : Prop := spec_RepeatBits.l6 n v.1.1 v.2.1.2.1 v.2.1.2.2.1 v.2.2.1.1 v.1.2.2.2.2.1 v.2.1.1 (fun y0 y1 y2 => K (.exit 0) ⟨[(4, .c (.pbox 4 0)), (7, .c (.own 224))], [(224, ⟨5, .int .u8, y0, 99, none⟩), (1000129, ⟨150, .int .u64, y1, 99, none⟩)], [(4, ⟨92, [.int .i64 y2, .own 1000129], false⟩)], [], []⟩)
theorem spec_RepeatBits.l6_ok : ∀ n v K, spec_RepeatBits.l6.u n v K → loopM C X0 n 148 6 (spec_RepeatBits.l6.s.fill v) K :=
 loop_tell hX (fn := Tryz.f148) (c := bodyOf Tryz.f148) (a := loopOf Tryz.f148 6) (li := liOf (C.fi 148).loops 6) (by kernel_rfl) (by kernel_rfl) (of_decide_eq_true rfl) (by kernel_rfl) (by kernel_rfl) (T := spec_RepeatBits.l6.s) (u := spec_RepeatBits.l6.u) (fun _ _ h => h) (call := D70) (lp := fun n => noL) (D70_ok hX) (fun n => noL_ok) (fun n v K => by kernel_rfl)
theorem spec_RepeatBits_ok : ∀ n v K, spec_RepeatBits.u n v K → callM C X0 n 148 (fillA spec_RepeatBits.a v) K :=
 call_tell hX (fn := Tryz.f148) (c := bodyOf Tryz.f148) (by kernel_rfl) (by kernel_rfl) (A := spec_RepeatBits.a) (u := spec_RepeatBits.u) (fun _ _ h => h) (call := D70) (lp := fun n => orL 6 spec_RepeatBits.l6.s (spec_RepeatBits.l6.u n) noL) (D70_ok hX) (fun n => (orL_ok (spec_RepeatBits.l6_ok hX n) noL_ok)) (fun n v K => by kernel_rfl)
def D71 (n : Nat) : CallF := orC 148 spec_RepeatBits.a (spec_RepeatBits.u n) (D70 n)
theorem D71_ok : ∀ n g a K, D71 n g a K → callM C X0 n g a K := fun n => orC_ok (spec_RepeatBits_ok hX n) (D70_ok hX n)
abbrev spec_l4Node.a : List TS := [.c (.o (.dat 92 (.prod (.int .i64) (.sl 150 (.int .u64))))), .a [.o (.int .i64), .o (.int .i64), .o (.int .i64), .o (.int .i64), .o (.int .i64), .o (.dat 150 (.int .u64)), .o (.dat 2 (.int .i64))], .c (.o (.dat 92 (.prod (.int .i64) (.sl 150 (.int .u64)))))]
def spec_l4Node.u (n : Nat) (v : VA spec_l4Node.a) (K : RES → Prop) : Prop := spec_l4Node.c n v.1 v.2.1.1 v.2.1.2.1 v.2.1.2.2.1 v.2.1.2.2.2.1 v.2.1.2.2.2.2.1 v.2.1.2.2.2.2.2.1 v.2.1.2.2.2.2.2.2.1 v.2.2.1 (fun r0 r1 => K ⟨.agg [.int .i64 r0, .dat 150 (.int .u64) r1], []⟩)
abbrev spec_l4Node.l10.s : ST := ⟨[(2, .c (.o (.dat 92 (.prod (.int .i64) (.sl 150 (.int .u64)))))), (6, .c (.o (.pbox 6 0))), (7, .c (.o (.pbox 7 0))), (8, .c (.o (.int .i64)))], [⟨1000193, 150, .int .u64, 99⟩], [⟨6, 92, [.o (.int .i64), .o (.own 1000193)], false⟩, ⟨7, 92, [.o (.int .i64), .o (.dat 150 (.int .u64))], false⟩], [], []⟩
def spec_l4Node.l10.u (n : Nat) (v : spec_l4Node.l10.s.V) (K : X → St → Prop) : Prop := spec_l4Node.l10 n v.1.1 v.2.1.1 v.2.2.1.1 v.1.2.2.2.1 v.2.2.2.1.1 v.2.2.2.1.2.1 (fun y0 y1 y2 y3 => K (.exit 1) ⟨[(6, .c (.pbox 6 0)), (7, .c (.pbox 7 0))], [(1000193, ⟨150, .int .u64, y0, 99, none⟩)], [(6, ⟨92, [.int .i64 y1, .own 1000193], false⟩), (7, ⟨92, [.int .i64 y2, .dat 150 (.int .u64) y3], false⟩)], [], []⟩)
theorem spec_l4Node.l10_ok : ∀ n v K, spec_l4Node.l10.u n v K → loopM C X0 n 109 10 (spec_l4Node.l10.s.fill v) K :=
 loop_tell hX (fn := Tryz.f109) (c := bodyOf Tryz.f109) (a := loopOf Tryz.f109 10) (li := liOf (C.fi 109).loops 10) (by kernel_rfl) (by kernel_rfl) (of_decide_eq_true rfl) (by kernel_rfl) (by kernel_rfl) (T := spec_l4Node.l10.s) (u := spec_l4Node.l10.u) (fun _ _ h => h) (call := D71) (lp := fun n => noL) (D71_ok hX) (fun n => noL_ok) (fun n v K => by kernel_rfl)
theorem spec_l4Node_ok : ∀ n v K, spec_l4Node.u n v K → callM C X0 n 109 (fillA spec_l4Node.a v) K :=
 call_tell hX (fn := Tryz.f109) (c := bodyOf Tryz.f109) (by kernel_rfl) (by kernel_rfl) (A := spec_l4Node.a) (u := spec_l4Node.u) (fun _ _ h => h) (call := D71) (lp := fun n => orL 10 spec_l4Node.l10.s (spec_l4Node.l10.u n) noL) (D71_ok hX) (fun n => (orL_ok (spec_l4Node.l10_ok hX n) noL_ok)) (fun n v K => by kernel_rfl)
def D72 (n : Nat) : CallF := orC 109 spec_l4Node.a (spec_l4Node.u n) (D71 n)
theorem D72_ok : ∀ n g a K, D72 n g a K → callM C X0 n g a K := fun n => orC_ok (spec_l4Node_ok hX n) (D71_ok hX n)
abbrev spec_l4Eval.a : List TS := [.c (.o (.dat 92 (.prod (.int .i64) (.sl 150 (.int .u64))))), .a [.o (.dat 145 (.prod (.int .i64) (.prod (.int .i64) (.prod (.int .i64) (.prod (.int .i64) (.prod (.int .i64) (.prod (.sl 150 (.int .u64)) (.sl 2 (.int .i64)))))))))]]
def spec_l4Eval.u (n : Nat) (v : VA spec_l4Eval.a) (K : RES → Prop) : Prop := spec_l4Eval.c n v.1 v.2.1.1 (fun r0 r1 => K ⟨.agg [.int .i64 r0, .row ⟨150, .int .u64, r1, 99, none⟩], []⟩)
abbrev spec_l4Eval.l7.s : ST := ⟨[(0, .c (.o (.dat 92 (.prod (.int .i64) (.sl 150 (.int .u64)))))), (3, .c (.o (.pbox 3 0))), (4, .c (.o (.pbox 4 0))), (5, .c (.o (.own 160))), (6, .c (.o (.int .i64))), (7, .c (.o (.own 224))), (8, .c (.o (.int .i64)))], [⟨160, 92, .prod (.int .i64) (.sl 150 (.int .u64)), 1⟩, ⟨224, 92, .prod (.int .i64) (.sl 150 (.int .u64)), 1⟩, ⟨1000129, 150, .int .u64, 99⟩], [⟨3, 89, [.o (.dat 145 (.prod (.int .i64) (.prod (.int .i64) (.prod (.int .i64) (.prod (.int .i64) (.prod (.int .i64) (.prod (.sl 150 (.int .u64)) (.sl 2 (.int .i64)))))))))], false⟩, ⟨4, 92, [.o (.int .i64), .o (.own 1000129)], false⟩], [], []⟩
def spec_l4Eval.l7.u (n : Nat) (v : spec_l4Eval.l7.s.V) (K : X → St → Prop) : Prop := spec_l4Eval.l7 n v.1.1 v.1.2.2.2.2.1 v.2.1.1 v.2.1.2.2.1 v.2.2.1.1 v.2.2.2.1.1 v.1.2.2.2.2.2.2.1 v.2.1.2.1 (fun y0 y1 y2 y3 y4 y5 y6 => K (.exit 2) ⟨[(0, .c (.dat 92 (.prod (.int .i64) (.sl 150 (.int .u64))) y0)), (3, .c (.pbox 3 0)), (4, .c (.pbox 4 0)), (5, .c (.own 160)), (6, .c (.int .i64 y1)), (7, .c (.own 224))], [(160, ⟨92, .prod (.int .i64) (.sl 150 (.int .u64)), y2, 1, none⟩), (224, ⟨92, .prod (.int .i64) (.sl 150 (.int .u64)), y3, 1, none⟩), (1000129, ⟨150, .int .u64, y4, 99, none⟩)], [(3, ⟨89, [.dat 145 (.prod (.int .i64) (.prod (.int .i64) (.prod (.int .i64) (.prod (.int .i64) (.prod (.int .i64) (.prod (.sl 150 (.int .u64)) (.sl 2 (.int .i64)))))))) y5], false⟩), (4, ⟨92, [.int .i64 y6, .own 1000129], false⟩)], [], []⟩)
abbrev spec_l4Eval.l3.s : ST := ⟨[(0, .c (.o (.dat 92 (.prod (.int .i64) (.sl 150 (.int .u64)))))), (3, .c (.o (.pbox 3 0))), (4, .c (.o (.pbox 4 0))), (5, .c (.o (.own 160))), (6, .c (.o (.int .i64)))], [⟨160, 92, .prod (.int .i64) (.sl 150 (.int .u64)), 1⟩, ⟨1000129, 150, .int .u64, 99⟩], [⟨3, 89, [.o (.dat 145 (.prod (.int .i64) (.prod (.int .i64) (.prod (.int .i64) (.prod (.int .i64) (.prod (.int .i64) (.prod (.sl 150 (.int .u64)) (.sl 2 (.int .i64)))))))))], false⟩, ⟨4, 92, [.o (.int .i64), .o (.own 1000129)], false⟩], [], []⟩
def spec_l4Eval.l3.u (n : Nat) (v : spec_l4Eval.l3.s.V) (K : X → St → Prop) : Prop := spec_l4Eval.l3 n v.1.1 v.1.2.2.2.2.1 v.2.1.1 v.2.1.2.1 v.2.2.1.1 v.2.2.2.1.1 (fun y0 y1 y2 => K (.exit 0) ⟨[(4, .c (.pbox 4 0)), (5, .c (.own 160))], [(160, ⟨92, .prod (.int .i64) (.sl 150 (.int .u64)), y0, 1, none⟩), (1000129, ⟨150, .int .u64, y1, 99, none⟩)], [(4, ⟨92, [.int .i64 y2, .own 1000129], false⟩)], [], []⟩)
theorem spec_l4Eval.l7_ok : ∀ n v K, spec_l4Eval.l7.u n v K → loopM C X0 n 52 7 (spec_l4Eval.l7.s.fill v) K :=
 loop_tell hX (fn := Tryz.f52) (c := bodyOf Tryz.f52) (a := loopOf Tryz.f52 7) (li := liOf (C.fi 52).loops 7) (by kernel_rfl) (by kernel_rfl) (of_decide_eq_true rfl) (by kernel_rfl) (by kernel_rfl) (T := spec_l4Eval.l7.s) (u := spec_l4Eval.l7.u) (fun _ _ h => h) (call := D72) (lp := fun n => noL) (D72_ok hX) (fun n => noL_ok) (fun n v K => by kernel_rfl)
theorem spec_l4Eval.l3_ok : ∀ n v K, spec_l4Eval.l3.u n v K → loopM C X0 n 52 3 (spec_l4Eval.l3.s.fill v) K :=
 loop_tell hX (fn := Tryz.f52) (c := bodyOf Tryz.f52) (a := loopOf Tryz.f52 3) (li := liOf (C.fi 52).loops 3) (by kernel_rfl) (by kernel_rfl) (of_decide_eq_true rfl) (by kernel_rfl) (by kernel_rfl) (T := spec_l4Eval.l3.s) (u := spec_l4Eval.l3.u) (fun _ _ h => h) (call := D72) (lp := fun n => orL 7 spec_l4Eval.l7.s (spec_l4Eval.l7.u n) noL) (D72_ok hX) (fun n => (orL_ok (spec_l4Eval.l7_ok hX n) noL_ok)) (fun n v K => by kernel_rfl)
theorem spec_l4Eval_ok : ∀ n v K, spec_l4Eval.u n v K → callM C X0 n 52 (fillA spec_l4Eval.a v) K :=
 call_tell hX (fn := Tryz.f52) (c := bodyOf Tryz.f52) (by kernel_rfl) (by kernel_rfl) (A := spec_l4Eval.a) (u := spec_l4Eval.u) (fun _ _ h => h) (call := D72) (lp := fun n => orL 3 spec_l4Eval.l3.s (spec_l4Eval.l3.u n) noL) (D72_ok hX) (fun n => (orL_ok (spec_l4Eval.l3_ok hX n) noL_ok)) (fun n v K => by kernel_rfl)
def D73 (n : Nat) : CallF := orC 52 spec_l4Eval.a (spec_l4Eval.u n) (D72 n)
theorem D73_ok : ∀ n g a K, D73 n g a K → callM C X0 n g a K := fun n => orC_ok (spec_l4Eval_ok hX n) (D72_ok hX n)
end
end Go.Vsi
end

section
set_option linter.unusedVariables false
namespace Go.Vsi
open Go.Proofs
section
variable {X0 : CallF} (hX : CallF.Mono X0)
include hX
abbrev spec_Bind.a : List TS := [.c (.o (.dat 95 (.prod .str (.int .i64)))), .c (.o (.dat 91 (.prod (.int .i64) (.sl 145 (.prod (.int .i64) (.prod (.int .i64) (.prod (.int .i64) (.prod (.int .i64) (.prod (.int .i64) (.prod (.sl 150 (.int .u64)) (.sl 2 (.int .i64)))))))))))), .c (.o (.dat 92 (.prod (.int .i64) (.sl 150 (.int .u64)))))]
def spec_Bind.u (n : Nat) (v : VA spec_Bind.a) (K : RES → Prop) : Prop := spec_Bind.c n v.1 v.2.1 v.2.2.1 (fun r0 r1 => K ⟨.tup [.c (.row ⟨92, .prod (.int .i64) (.sl 150 (.int .u64)), r0, 99, none⟩), .c (.bool r1)], []⟩)
abbrev spec_Bind.l5.s : ST := ⟨[(0, .c (.o (.dat 95 (.prod .str (.int .i64))))), (1, .c (.o (.dat 91 (.prod (.int .i64) (.sl 145 (.prod (.int .i64) (.prod (.int .i64) (.prod (.int .i64) (.prod (.int .i64) (.prod (.int .i64) (.prod (.sl 150 (.int .u64)) (.sl 2 (.int .i64))))))))))))), (2, .c (.o (.dat 92 (.prod (.int .i64) (.sl 150 (.int .u64)))))), (8, .c (.o (.own 384))), (9, .c (.o (.int .i64)))], [⟨384, 92, .prod (.int .i64) (.sl 150 (.int .u64)), 99⟩], [], [], []⟩
def spec_Bind.l5.u (n : Nat) (v : spec_Bind.l5.s.V) (K : X → St → Prop) : Prop := spec_Bind.l5 n v.1.1 v.1.2.1 v.1.2.2.1 v.2.1.1 v.1.2.2.2.2.1 (fun y0 y1 y2 => K (.exit 0) ⟨[(1, .c (.dat 91 (.prod (.int .i64) (.sl 145 (.prod (.int .i64) (.prod (.int .i64) (.prod (.int .i64) (.prod (.int .i64) (.prod (.int .i64) (.prod (.sl 150 (.int .u64)) (.sl 2 (.int .i64)))))))))) y0)), (2, .c (.dat 92 (.prod (.int .i64) (.sl 150 (.int .u64))) y1)), (8, .c (.own 384))], [(384, ⟨92, .prod (.int .i64) (.sl 150 (.int .u64)), y2, 99, none⟩)], [], [], []⟩) (fun y0 y1 => K .ret ⟨[(6, .c (.own 384)), (7, .c (.bool y0))], [(384, ⟨92, .prod (.int .i64) (.sl 150 (.int .u64)), y1, 99, none⟩)], [], [], []⟩)
abbrev spec_Bind.l10.s : ST := ⟨[(1, .c (.o (.dat 91 (.prod (.int .i64) (.sl 145 (.prod (.int .i64) (.prod (.int .i64) (.prod (.int .i64) (.prod (.int .i64) (.prod (.int .i64) (.prod (.sl 150 (.int .u64)) (.sl 2 (.int .i64))))))))))))), (2, .c (.o (.dat 92 (.prod (.int .i64) (.sl 150 (.int .u64)))))), (8, .c (.o (.own 256))), (10, .c (.o (.int .i64)))], [⟨256, 92, .prod (.int .i64) (.sl 150 (.int .u64)), 99⟩], [], [], []⟩
def spec_Bind.l10.u (n : Nat) (v : spec_Bind.l10.s.V) (K : X → St → Prop) : Prop := spec_Bind.l10 n v.1.1 v.1.2.1 v.1.2.2.2.1 v.2.1.1 (fun y0 y1 => K (.exit 2) ⟨[(1, .c (.dat 91 (.prod (.int .i64) (.sl 145 (.prod (.int .i64) (.prod (.int .i64) (.prod (.int .i64) (.prod (.int .i64) (.prod (.int .i64) (.prod (.sl 150 (.int .u64)) (.sl 2 (.int .i64)))))))))) y0)), (8, .c (.own 256))], [(256, ⟨92, .prod (.int .i64) (.sl 150 (.int .u64)), y1, 99, none⟩)], [], [], []⟩)
abbrev spec_Bind.l14.s : ST := ⟨[(1, .c (.o (.dat 91 (.prod (.int .i64) (.sl 145 (.prod (.int .i64) (.prod (.int .i64) (.prod (.int .i64) (.prod (.int .i64) (.prod (.int .i64) (.prod (.sl 150 (.int .u64)) (.sl 2 (.int .i64))))))))))))), (8, .c (.o (.own 256))), (11, .c (.o (.int .i64)))], [⟨256, 92, .prod (.int .i64) (.sl 150 (.int .u64)), 99⟩], [], [], []⟩
def spec_Bind.l14.u (n : Nat) (v : spec_Bind.l14.s.V) (K : X → St → Prop) : Prop := spec_Bind.l14 n v.1.1 v.1.2.2.1 v.2.1.1 (fun y0 => K (.exit 4) ⟨[(8, .c (.own 256))], [(256, ⟨92, .prod (.int .i64) (.sl 150 (.int .u64)), y0, 99, none⟩)], [], [], []⟩)
theorem spec_Bind.l5_ok : ∀ n v K, spec_Bind.l5.u n v K → loopM C X0 n 12 5 (spec_Bind.l5.s.fill v) K :=
 loop_tell hX (fn := Tryz.f12) (c := bodyOf Tryz.f12) (a := loopOf Tryz.f12 5) (li := liOf (C.fi 12).loops 5) (by kernel_rfl) (by kernel_rfl) (of_decide_eq_true rfl) (by kernel_rfl) (by kernel_rfl) (T := spec_Bind.l5.s) (u := spec_Bind.l5.u) (fun _ _ h => h) (call := D73) (lp := fun n => noL) (D73_ok hX) (fun n => noL_ok) (fun n v K => by kernel_rfl)
theorem spec_Bind.l10_ok : ∀ n v K, spec_Bind.l10.u n v K → loopM C X0 n 12 10 (spec_Bind.l10.s.fill v) K :=
 loop_tell hX (fn := Tryz.f12) (c := bodyOf Tryz.f12) (a := loopOf Tryz.f12 10) (li := liOf (C.fi 12).loops 10) (by kernel_rfl) (by kernel_rfl) (of_decide_eq_true rfl) (by kernel_rfl) (by kernel_rfl) (T := spec_Bind.l10.s) (u := spec_Bind.l10.u) (fun _ _ h => h) (call := D73) (lp := fun n => noL) (D73_ok hX) (fun n => noL_ok) (fun n v K => by kernel_rfl)
theorem spec_Bind.l14_ok : ∀ n v K, spec_Bind.l14.u n v K → loopM C X0 n 12 14 (spec_Bind.l14.s.fill v) K :=
 loop_tell hX (fn := Tryz.f12) (c := bodyOf Tryz.f12) (a := loopOf Tryz.f12 14) (li := liOf (C.fi 12).loops 14) (by kernel_rfl) (by kernel_rfl) (of_decide_eq_true rfl) (by kernel_rfl) (by kernel_rfl) (T := spec_Bind.l14.s) (u := spec_Bind.l14.u) (fun _ _ h => h) (call := D73) (lp := fun n => noL) (D73_ok hX) (fun n => noL_ok) (fun n v K => by kernel_rfl)
theorem spec_Bind_ok : ∀ n v K, spec_Bind.u n v K → callM C X0 n 12 (fillA spec_Bind.a v) K :=
 call_tell hX (fn := Tryz.f12) (c := bodyOf Tryz.f12) (by kernel_rfl) (by kernel_rfl) (A := spec_Bind.a) (u := spec_Bind.u) (fun _ _ h => h) (call := D73) (lp := fun n => orL 5 spec_Bind.l5.s (spec_Bind.l5.u n) (orL 10 spec_Bind.l10.s (spec_Bind.l10.u n) (orL 14 spec_Bind.l14.s (spec_Bind.l14.u n) noL))) (D73_ok hX) (fun n => (orL_ok (spec_Bind.l5_ok hX n) (orL_ok (spec_Bind.l10_ok hX n) (orL_ok (spec_Bind.l14_ok hX n) noL_ok)))) (fun n v K => by kernel_rfl)
def D74 (n : Nat) : CallF := orC 12 spec_Bind.a (spec_Bind.u n) (D73 n)
theorem D74_ok : ∀ n g a K, D74 n g a K → callM C X0 n g a K := fun n => orC_ok (spec_Bind_ok hX n) (D73_ok hX n)
abbrev impl_valuesOk.a : List TS := [.c (.o (.dat 95 (.prod .str (.int .i64)))), .c (.o (.dat 92 (.prod (.int .i64) (.sl 150 (.int .u64)))))]
def impl_valuesOk.u (n : Nat) (v : VA impl_valuesOk.a) (K : RES → Prop) : Prop := impl_valuesOk.c n v.1 v.2.1 (fun r0 => K ⟨.c (.bool r0), []⟩)
abbrev impl_valuesOk.l4.s : ST := ⟨[(0, .c (.o (.dat 95 (.prod .str (.int .i64))))), (12, .c (.o (.dat 92 (.prod (.int .i64) (.sl 150 (.int .u64)))))), (13, .c (.o (.int .i64))), (14, .c (.o (.int .i64)))], [], [], [], []⟩
def impl_valuesOk.l4.u (n : Nat) (v : impl_valuesOk.l4.s.V) (K : X → St → Prop) : Prop := impl_valuesOk.l4 n v.1.1 v.1.2.1 v.1.2.2.1 v.1.2.2.2.1 (K (.exit 0) ⟨[], [], [], [], []⟩) (fun y0 => K .ret ⟨[(4, .c (.bool y0))], [], [], [], []⟩)
theorem impl_valuesOk.l4_ok : ∀ n v K, impl_valuesOk.l4.u n v K → loopM C X0 n 113 4 (impl_valuesOk.l4.s.fill v) K :=
 loop_tell hX (fn := Tryz.f113) (c := bodyOf Tryz.f113) (a := loopOf Tryz.f113 4) (li := liOf (C.fi 113).loops 4) (by kernel_rfl) (by kernel_rfl) (of_decide_eq_true rfl) (by kernel_rfl) (by kernel_rfl) (T := impl_valuesOk.l4.s) (u := impl_valuesOk.l4.u) (fun _ _ h => h) (call := D74) (lp := fun n => noL) (D74_ok hX) (fun n => noL_ok) (fun n v K => by kernel_rfl)
theorem impl_valuesOk_ok : ∀ n v K, impl_valuesOk.u n v K → callM C X0 n 113 (fillA impl_valuesOk.a v) K :=
 call_tell hX (fn := Tryz.f113) (c := bodyOf Tryz.f113) (by kernel_rfl) (by kernel_rfl) (A := impl_valuesOk.a) (u := impl_valuesOk.u) (fun _ _ h => h) (call := D74) (lp := fun n => orL 4 impl_valuesOk.l4.s (impl_valuesOk.l4.u n) noL) (D74_ok hX) (fun n => (orL_ok (impl_valuesOk.l4_ok hX n) noL_ok)) (fun n v K => by kernel_rfl)
def D75 (n : Nat) : CallF := orC 113 impl_valuesOk.a (impl_valuesOk.u n) (D74 n)
theorem D75_ok : ∀ n g a K, D75 n g a K → callM C X0 n g a K := fun n => orC_ok (impl_valuesOk_ok hX n) (D74_ok hX n)
abbrev impl_ValuesOk.a : List TS := [.c (.o (.dat 95 (.prod .str (.int .i64)))), .c (.o (.dat 92 (.prod (.int .i64) (.sl 150 (.int .u64)))))]
def impl_ValuesOk.u (n : Nat) (v : VA impl_ValuesOk.a) (K : RES → Prop) : Prop := impl_ValuesOk.c n v.1 v.2.1 (fun r0 => K ⟨.c (.bool r0), []⟩)
theorem impl_ValuesOk_ok : ∀ n v K, impl_ValuesOk.u n v K → callM C X0 n 56 (fillA impl_ValuesOk.a v) K :=
 call_tell hX (fn := Tryz.f56) (c := bodyOf Tryz.f56) (by kernel_rfl) (by kernel_rfl) (A := impl_ValuesOk.a) (u := impl_ValuesOk.u) (fun _ _ h => h) (call := D75) (lp := fun n => noL) (D75_ok hX) (fun n => noL_ok) (fun n v K => by kernel_rfl)
def D76 (n : Nat) : CallF := orC 56 impl_ValuesOk.a (impl_ValuesOk.u n) (D75 n)
theorem D76_ok : ∀ n g a K, D76 n g a K → callM C X0 n g a K := fun n => orC_ok (impl_ValuesOk_ok hX n) (D75_ok hX n)
abbrev impl_bindable.a : List TS := [.c (.o (.dat 95 (.prod .str (.int .i64)))), .a [.o (.int .i64), .o (.dat 145 (.prod (.int .i64) (.prod (.int .i64) (.prod (.int .i64) (.prod (.int .i64) (.prod (.int .i64) (.prod (.sl 150 (.int .u64)) (.sl 2 (.int .i64)))))))))]]
def impl_bindable.u (n : Nat) (v : VA impl_bindable.a) (K : RES → Prop) : Prop := impl_bindable.c n v.1 v.2.1.1 v.2.1.2.1 (fun r0 => K ⟨.c (.bool r0), []⟩)
theorem impl_bindable_ok : ∀ n v K, impl_bindable.u n v K → callM C X0 n 59 (fillA impl_bindable.a v) K :=
 call_tell hX (fn := Tryz.f59) (c := bodyOf Tryz.f59) (by kernel_rfl) (by kernel_rfl) (A := impl_bindable.a) (u := impl_bindable.u) (fun _ _ h => h) (call := D76) (lp := fun n => noL) (D76_ok hX) (fun n => noL_ok) (fun n v K => by kernel_rfl)
def D77 (n : Nat) : CallF := orC 59 impl_bindable.a (impl_bindable.u n) (D76 n)
theorem D77_ok : ∀ n g a K, D77 n g a K → callM C X0 n g a K := fun n => orC_ok (impl_bindable_ok hX n) (D76_ok hX n)
abbrev impl_Bind_1.a : List TS := [.a [.o (.int .i64), .o (.dat 145 (.prod (.int .i64) (.prod (.int .i64) (.prod (.int .i64) (.prod (.int .i64) (.prod (.int .i64) (.prod (.sl 150 (.int .u64)) (.sl 2 (.int .i64)))))))))], .c (.o (.pdat 31 (.sl 95 (.prod .str (.int .i64))) 0))]
def impl_Bind_1.u (n : Nat) (v : VA impl_Bind_1.a) (K : RES → Prop) : Prop := impl_Bind_1.c n v.1.1 v.1.2.1 v.2.1 (fun r0 => K ⟨.c (.bool r0), []⟩)
theorem impl_Bind_1_ok : ∀ n v K, impl_Bind_1.u n v K → callM C X0 n 58 (fillA impl_Bind_1.a v) K :=
 call_tell hX (fn := Tryz.f58) (c := bodyOf Tryz.f58) (by kernel_rfl) (by kernel_rfl) (A := impl_Bind_1.a) (u := impl_Bind_1.u) (fun _ _ h => h) (call := D77) (lp := fun n => noL) (D77_ok hX) (fun n => noL_ok) (fun n v K => by kernel_rfl)
def D78 (n : Nat) : CallF := orC 58 impl_Bind_1.a (impl_Bind_1.u n) (D77 n)
theorem D78_ok : ∀ n g a K, D78 n g a K → callM C X0 n g a K := fun n => orC_ok (impl_Bind_1_ok hX n) (D77_ok hX n)
abbrev slices_IndexFunc_Binding__impl_Bind_1.a : List TS := [.c (.o (.dat 91 (.prod (.int .i64) (.sl 145 (.prod (.int .i64) (.prod (.int .i64) (.prod (.int .i64) (.prod (.int .i64) (.prod (.int .i64) (.prod (.sl 150 (.int .u64)) (.sl 2 (.int .i64)))))))))))), .c (.fn 58 [(false, 1)] 0 [.pdat 31 (.sl 95 (.prod .str (.int .i64))) 0])]
def slices_IndexFunc_Binding__impl_Bind_1.u (n : Nat) (v : VA slices_IndexFunc_Binding__impl_Bind_1.a) (K : RES → Prop) : Prop := slices_IndexFunc_Binding__impl_Bind_1.c n v.1 v.2.1.1 (fun r0 => K ⟨.c (.int .i64 r0), []⟩)
abbrev slices_IndexFunc_Binding__impl_Bind_1.l2.s : ST := ⟨[(0, .c (.o (.dat 91 (.prod (.int .i64) (.sl 145 (.prod (.int .i64) (.prod (.int .i64) (.prod (.int .i64) (.prod (.int .i64) (.prod (.int .i64) (.prod (.sl 150 (.int .u64)) (.sl 2 (.int .i64))))))))))))), (1, .c (.fn 58 [(false, 1)] 0 [.pdat 31 (.sl 95 (.prod .str (.int .i64))) 0])), (7, .c (.o (.int .i64))), (8, .c (.o (.int .i64)))], [], [], [], []⟩
def slices_IndexFunc_Binding__impl_Bind_1.l2.u (n : Nat) (v : slices_IndexFunc_Binding__impl_Bind_1.l2.s.V) (K : X → St → Prop) : Prop := slices_IndexFunc_Binding__impl_Bind_1.l2 n v.1.1 v.1.2.1.1 v.1.2.2.1 v.1.2.2.2.1 (K (.exit 0) ⟨[], [], [], [], []⟩) (fun y0 => K .ret ⟨[(4, .c (.int .i64 y0))], [], [], [], []⟩)
theorem slices_IndexFunc_Binding__impl_Bind_1.l2_ok : ∀ n v K, slices_IndexFunc_Binding__impl_Bind_1.l2.u n v K → loopM C X0 n 114 2 (slices_IndexFunc_Binding__impl_Bind_1.l2.s.fill v) K :=
 loop_tell hX (fn := Tryz.f114) (c := bodyOf Tryz.f114) (a := loopOf Tryz.f114 2) (li := liOf (C.fi 114).loops 2) (by kernel_rfl) (by kernel_rfl) (of_decide_eq_true rfl) (by kernel_rfl) (by kernel_rfl) (T := slices_IndexFunc_Binding__impl_Bind_1.l2.s) (u := slices_IndexFunc_Binding__impl_Bind_1.l2.u) (fun _ _ h => h) (call := D78) (lp := fun n => noL) (D78_ok hX) (fun n => noL_ok) (fun n v K => by kernel_rfl)
theorem slices_IndexFunc_Binding__impl_Bind_1_ok : ∀ n v K, slices_IndexFunc_Binding__impl_Bind_1.u n v K → callM C X0 n 114 (fillA slices_IndexFunc_Binding__impl_Bind_1.a v) K :=
 call_tell hX (fn := Tryz.f114) (c := bodyOf Tryz.f114) (by kernel_rfl) (by kernel_rfl) (A := slices_IndexFunc_Binding__impl_Bind_1.a) (u := slices_IndexFunc_Binding__impl_Bind_1.u) (fun _ _ h => h) (call := D78) (lp := fun n => orL 2 slices_IndexFunc_Binding__impl_Bind_1.l2.s (slices_IndexFunc_Binding__impl_Bind_1.l2.u n) noL) (D78_ok hX) (fun n => (orL_ok (slices_IndexFunc_Binding__impl_Bind_1.l2_ok hX n) noL_ok)) (fun n v K => by kernel_rfl)
def D79 (n : Nat) : CallF := orC 114 slices_IndexFunc_Binding__impl_Bind_1.a (slices_IndexFunc_Binding__impl_Bind_1.u n) (D78 n)
theorem D79_ok : ∀ n g a K, D79 n g a K → callM C X0 n g a K := fun n => orC_ok (slices_IndexFunc_Binding__impl_Bind_1_ok hX n) (D78_ok hX n)
abbrev slices_ContainsFunc_Binding__impl_Bind_1.a : List TS := [.c (.o (.dat 91 (.prod (.int .i64) (.sl 145 (.prod (.int .i64) (.prod (.int .i64) (.prod (.int .i64) (.prod (.int .i64) (.prod (.int .i64) (.prod (.sl 150 (.int .u64)) (.sl 2 (.int .i64)))))))))))), .c (.fn 58 [(false, 1)] 0 [.pdat 31 (.sl 95 (.prod .str (.int .i64))) 0])]
def slices_ContainsFunc_Binding__impl_Bind_1.u (n : Nat) (v : VA slices_ContainsFunc_Binding__impl_Bind_1.a) (K : RES → Prop) : Prop := slices_ContainsFunc_Binding__impl_Bind_1.c n v.1 v.2.1.1 (fun r0 => K ⟨.c (.bool r0), []⟩)
theorem slices_ContainsFunc_Binding__impl_Bind_1_ok : ∀ n v K, slices_ContainsFunc_Binding__impl_Bind_1.u n v K → callM C X0 n 57 (fillA slices_ContainsFunc_Binding__impl_Bind_1.a v) K :=
 call_tell hX (fn := Tryz.f57) (c := bodyOf Tryz.f57) (by kernel_rfl) (by kernel_rfl) (A := slices_ContainsFunc_Binding__impl_Bind_1.a) (u := slices_ContainsFunc_Binding__impl_Bind_1.u) (fun _ _ h => h) (call := D79) (lp := fun n => noL) (D79_ok hX) (fun n => noL_ok) (fun n v K => by kernel_rfl)
def D80 (n : Nat) : CallF := orC 57 slices_ContainsFunc_Binding__impl_Bind_1.a (slices_ContainsFunc_Binding__impl_Bind_1.u n) (D79 n)
theorem D80_ok : ∀ n g a K, D80 n g a K → callM C X0 n g a K := fun n => orC_ok (slices_ContainsFunc_Binding__impl_Bind_1_ok hX n) (D79_ok hX n)
abbrev impl_zeroBits.a : List TS := [.c (.o (.int .i64))]
def impl_zeroBits.u (n : Nat) (v : VA impl_zeroBits.a) (K : RES → Prop) : Prop := impl_zeroBits.c n v.1 (fun r0 r1 => K ⟨.agg [.int .i64 r0, .row ⟨150, .int .u64, r1, 99, none⟩], []⟩)
theorem impl_zeroBits_ok : ∀ n v K, impl_zeroBits.u n v K → callM C X0 n 163 (fillA impl_zeroBits.a v) K :=
 call_tell hX (fn := Tryz.f163) (c := bodyOf Tryz.f163) (by kernel_rfl) (by kernel_rfl) (A := impl_zeroBits.a) (u := impl_zeroBits.u) (fun _ _ h => h) (call := D80) (lp := fun n => noL) (D80_ok hX) (fun n => noL_ok) (fun n v K => by kernel_rfl)
def D81 (n : Nat) : CallF := orC 163 impl_zeroBits.a (impl_zeroBits.u n) (D80 n)
theorem D81_ok : ∀ n g a K, D81 n g a K → callM C X0 n g a K := fun n => orC_ok (impl_zeroBits_ok hX n) (D80_ok hX n)
abbrev impl_Bits_put.a : List TS := [.a [.o (.int .i64), .o (.row 150 (.int .u64) 99)], .c (.o (.int .i64)), .a [.o (.int .i64), .o (.dat 150 (.int .u64))]]
def impl_Bits_put.u (n : Nat) (v : VA impl_Bits_put.a) (K : RES → Prop) : Prop := impl_Bits_put.c n v.1.1 v.1.2.1 v.2.1 v.2.2.1.1 v.2.2.1.2.1 (fun r0 r1 => K ⟨.tup [], [[.int .i64 r0, .row ⟨150, .int .u64, r1, 99, none⟩]]⟩)
abbrev impl_Bits_put.l2.s : ST := ⟨[(1, .c (.o (.int .i64))), (3, .c (.o (.pbox 3 0))), (10, .c (.o (.dat 150 (.int .u64)))), (11, .c (.o (.int .i64))), (12, .c (.o (.int .i64)))], [⟨1, 150, .int .u64, 99⟩], [⟨3, 92, [.o (.int .i64), .o (.own 1)], false⟩], [1], []⟩
def impl_Bits_put.l2.u (n : Nat) (v : impl_Bits_put.l2.s.V) (K : X → St → Prop) : Prop := impl_Bits_put.l2 n v.1.1 v.1.2.2.1 v.1.2.2.2.1 v.2.2.1.1 v.1.2.2.2.2.1 v.2.1.1 (fun y0 => K (.exit 0) ⟨[], [(1, ⟨150, .int .u64, y0, 99, none⟩)], [], [1], []⟩)
theorem impl_Bits_put.l2_ok : ∀ n v K, impl_Bits_put.l2.u n v K → loopM C X0 n 173 2 (impl_Bits_put.l2.s.fill v) K :=
 loop_tell hX (fn := Tryz.f173) (c := bodyOf Tryz.f173) (a := loopOf Tryz.f173 2) (li := liOf (C.fi 173).loops 2) (by kernel_rfl) (by kernel_rfl) (of_decide_eq_true rfl) (by kernel_rfl) (by kernel_rfl) (T := impl_Bits_put.l2.s) (u := impl_Bits_put.l2.u) (fun _ _ h => h) (call := D81) (lp := fun n => noL) (D81_ok hX) (fun n => noL_ok) (fun n v K => by kernel_rfl)
theorem impl_Bits_put_ok : ∀ n v K, impl_Bits_put.u n v K → callM C X0 n 173 (fillA impl_Bits_put.a v) K :=
 call_tell hX (fn := Tryz.f173) (c := bodyOf Tryz.f173) (by kernel_rfl) (by kernel_rfl) (A := impl_Bits_put.a) (u := impl_Bits_put.u) (fun _ _ h => h) (call := D81) (lp := fun n => orL 2 impl_Bits_put.l2.s (impl_Bits_put.l2.u n) noL) (D81_ok hX) (fun n => (orL_ok (impl_Bits_put.l2_ok hX n) noL_ok)) (fun n v K => by kernel_rfl)
def D82 (n : Nat) : CallF := orC 173 impl_Bits_put.a (impl_Bits_put.u n) (D81 n)
theorem D82_ok : ∀ n g a K, D82 n g a K → callM C X0 n g a K := fun n => orC_ok (impl_Bits_put_ok hX n) (D81_ok hX n)
abbrev impl_Bits_over.a : List TS := [.a [.o (.int .i64), .o (.dat 150 (.int .u64))], .a [.o (.int .i64), .o (.dat 150 (.int .u64))]]
def impl_Bits_over.u (n : Nat) (v : VA impl_Bits_over.a) (K : RES → Prop) : Prop := impl_Bits_over.c n v.1.1 v.1.2.1 v.2.1.1 v.2.1.2.1 (fun r0 r1 => K ⟨.agg [.int .i64 r0, .row ⟨150, .int .u64, r1, 99, none⟩], []⟩)
theorem impl_Bits_over_ok : ∀ n v K, impl_Bits_over.u n v K → callM C X0 n 152 (fillA impl_Bits_over.a v) K :=
 call_tell hX (fn := Tryz.f152) (c := bodyOf Tryz.f152) (by kernel_rfl) (by kernel_rfl) (A := impl_Bits_over.a) (u := impl_Bits_over.u) (fun _ _ h => h) (call := D82) (lp := fun n => noL) (D82_ok hX) (fun n => noL_ok) (fun n v K => by kernel_rfl)
def D83 (n : Nat) : CallF := orC 152 impl_Bits_over.a (impl_Bits_over.u n) (D82 n)
theorem D83_ok : ∀ n g a K, D83 n g a K → callM C X0 n g a K := fun n => orC_ok (impl_Bits_over_ok hX n) (D82_ok hX n)
abbrev impl_Bits_cut.a : List TS := [.a [.o (.int .i64), .o (.dat 150 (.int .u64))], .c (.o (.int .i64)), .c (.o (.int .i64))]
def impl_Bits_cut.u (n : Nat) (v : VA impl_Bits_cut.a) (K : RES → Prop) : Prop := impl_Bits_cut.c n v.1.1 v.1.2.1 v.2.1 v.2.2.1 (fun r0 r1 => K ⟨.agg [.int .i64 r0, .row ⟨150, .int .u64, r1, 99, none⟩], []⟩)
abbrev impl_Bits_cut.l3.s : ST := ⟨[(1, .c (.o (.int .i64))), (2, .c (.o (.int .i64))), (3, .c (.o (.pbox 3 0))), (6, .c (.o (.pbox 6 0))), (7, .c (.o (.pbox 7 0))), (15, .c (.o (.int .i64))), (16, .c (.o (.int .i64)))], [⟨385, 150, .int .u64, 99⟩, ⟨1000193, 150, .int .u64, 99⟩], [⟨3, 92, [.o (.int .i64), .o (.dat 150 (.int .u64))], false⟩, ⟨6, 92, [.o (.int .i64), .o (.own 1000193)], false⟩, ⟨7, 92, [.o (.int .i64), .o (.own 385)], false⟩], [], []⟩
def impl_Bits_cut.l3.u (n : Nat) (v : impl_Bits_cut.l3.s.V) (K : X → St → Prop) : Prop := impl_Bits_cut.l3 n v.1.1 v.1.2.1 v.1.2.2.2.2.2.1 v.2.1.2.1 v.2.2.1.1 v.2.2.1.2.1 v.2.2.2.1.1 v.2.2.2.2.1.1 v.1.2.2.2.2.2.2.1 v.2.1.1 (fun y0 y1 y2 y3 y4 => K (.exit 0) ⟨[(2, .c (.int .i64 y0)), (6, .c (.pbox 6 0)), (7, .c (.pbox 7 0))], [(385, ⟨150, .int .u64, y1, 99, none⟩), (1000193, ⟨150, .int .u64, y2, 99, none⟩)], [(6, ⟨92, [.int .i64 y3, .own 1000193], false⟩), (7, ⟨92, [.int .i64 y4, .own 385], false⟩)], [], []⟩)
theorem impl_Bits_cut.l3_ok : ∀ n v K, impl_Bits_cut.l3.u n v K → loopM C X0 n 153 3 (impl_Bits_cut.l3.s.fill v) K :=
 loop_tell hX (fn := Tryz.f153) (c := bodyOf Tryz.f153) (a := loopOf Tryz.f153 3) (li := liOf (C.fi 153).loops 3) (by kernel_rfl) (by kernel_rfl) (of_decide_eq_true rfl) (by kernel_rfl) (by kernel_rfl) (T := impl_Bits_cut.l3.s) (u := impl_Bits_cut.l3.u) (fun _ _ h => h) (call := D83) (lp := fun n => noL) (D83_ok hX) (fun n => noL_ok) (fun n v K => by kernel_rfl)
theorem impl_Bits_cut_ok : ∀ n v K, impl_Bits_cut.u n v K → callM C X0 n 153 (fillA impl_Bits_cut.a v) K :=
 call_tell hX (fn := Tryz.f153) (c := bodyOf Tryz.f153) (by kernel_rfl) (by kernel_rfl) (A := impl_Bits_cut.a) (u := impl_Bits_cut.u) (fun _ _ h => h) (call := D83) (lp := fun n => orL 3 impl_Bits_cut.l3.s (impl_Bits_cut.l3.u n) noL) (D83_ok hX) (fun n => (orL_ok (impl_Bits_cut.l3_ok hX n) noL_ok)) (fun n v K => by kernel_rfl)
def D84 (n : Nat) : CallF := orC 153 impl_Bits_cut.a (impl_Bits_cut.u n) (D83 n)
theorem D84_ok : ∀ n g a K, D84 n g a K → callM C X0 n g a K := fun n => orC_ok (impl_Bits_cut_ok hX n) (D83_ok hX n)
abbrev impl_Bits_turn.a : List TS := [.a [.o (.int .i64), .o (.dat 150 (.int .u64))], .c (.o (.int .i64))]
def impl_Bits_turn.u (n : Nat) (v : VA impl_Bits_turn.a) (K : RES → Prop) : Prop := impl_Bits_turn.c n v.1.1 v.1.2.1 v.2.1 (fun r0 r1 => K ⟨.agg [.int .i64 r0, .row ⟨150, .int .u64, r1, 99, none⟩], []⟩)
theorem impl_Bits_turn_ok : ∀ n v K, impl_Bits_turn.u n v K → callM C X0 n 154 (fillA impl_Bits_turn.a v) K :=
 call_tell hX (fn := Tryz.f154) (c := bodyOf Tryz.f154) (by kernel_rfl) (by kernel_rfl) (A := impl_Bits_turn.a) (u := impl_Bits_turn.u) (fun _ _ h => h) (call := D84) (lp := fun n => noL) (D84_ok hX) (fun n => noL_ok) (fun n v K => by kernel_rfl)
def D85 (n : Nat) : CallF := orC 154 impl_Bits_turn.a (impl_Bits_turn.u n) (D84 n)
theorem D85_ok : ∀ n g a K, D85 n g a K → callM C X0 n g a K := fun n => orC_ok (impl_Bits_turn_ok hX n) (D84_ok hX n)
abbrev impl_Bits_repeat.a : List TS := [.a [.o (.int .i64), .o (.dat 150 (.int .u64))], .c (.o (.int .i64))]
def impl_Bits_repeat.u (n : Nat) (v : VA impl_Bits_repeat.a) (K : RES → Prop) : Prop := impl_Bits_repeat.c n v.1.1 v.1.2.1 v.2.1 (fun r0 r1 => K ⟨.agg [.int .i64 r0, .row ⟨150, .int .u64, r1, 99, none⟩], []⟩)
abbrev impl_Bits_repeat.l3.s : ST := ⟨[(2, .c (.o (.pbox 2 0))), (4, .c (.o (.pbox 4 0))), (5, .c (.o (.pbox 5 0))), (12, .c (.o (.int .i64))), (13, .c (.o (.int .i64)))], [⟨353, 150, .int .u64, 99⟩, ⟨1000129, 150, .int .u64, 99⟩], [⟨2, 92, [.o (.int .i64), .o (.dat 150 (.int .u64))], false⟩, ⟨4, 92, [.o (.int .i64), .o (.own 1000129)], false⟩, ⟨5, 92, [.o (.int .i64), .o (.own 353)], false⟩], [], []⟩
def impl_Bits_repeat.l3.u (n : Nat) (v : impl_Bits_repeat.l3.s.V) (K : X → St → Prop) : Prop := impl_Bits_repeat.l3 n v.1.2.2.2.1 v.2.1.2.1 v.2.2.1.1 v.2.2.1.2.1 v.2.2.2.1.1 v.2.2.2.2.1.1 v.1.2.2.2.2.1 v.2.1.1 (fun y0 y1 y2 y3 => K (.exit 0) ⟨[(4, .c (.pbox 4 0)), (5, .c (.pbox 5 0))], [(353, ⟨150, .int .u64, y0, 99, none⟩), (1000129, ⟨150, .int .u64, y1, 99, none⟩)], [(4, ⟨92, [.int .i64 y2, .own 1000129], false⟩), (5, ⟨92, [.int .i64 y3, .own 353], false⟩)], [], []⟩)
theorem impl_Bits_repeat.l3_ok : ∀ n v K, impl_Bits_repeat.l3.u n v K → loopM C X0 n 155 3 (impl_Bits_repeat.l3.s.fill v) K :=
 loop_tell hX (fn := Tryz.f155) (c := bodyOf Tryz.f155) (a := loopOf Tryz.f155 3) (li := liOf (C.fi 155).loops 3) (by kernel_rfl) (by kernel_rfl) (of_decide_eq_true rfl) (by kernel_rfl) (by kernel_rfl) (T := impl_Bits_repeat.l3.s) (u := impl_Bits_repeat.l3.u) (fun _ _ h => h) (call := D85) (lp := fun n => noL) (D85_ok hX) (fun n => noL_ok) (fun n v K => by kernel_rfl)
theorem impl_Bits_repeat_ok : ∀ n v K, impl_Bits_repeat.u n v K → callM C X0 n 155 (fillA impl_Bits_repeat.a v) K :=
 call_tell hX (fn := Tryz.f155) (c := bodyOf Tryz.f155) (by kernel_rfl) (by kernel_rfl) (A := impl_Bits_repeat.a) (u := impl_Bits_repeat.u) (fun _ _ h => h) (call := D85) (lp := fun n => orL 3 impl_Bits_repeat.l3.s (impl_Bits_repeat.l3.u n) noL) (D85_ok hX) (fun n => (orL_ok (impl_Bits_repeat.l3_ok hX n) noL_ok)) (fun n v K => by kernel_rfl)
def D86 (n : Nat) : CallF := orC 155 impl_Bits_repeat.a (impl_Bits_repeat.u n) (D85 n)
theorem D86_ok : ∀ n g a K, D86 n g a K → callM C X0 n g a K := fun n => orC_ok (impl_Bits_repeat_ok hX n) (D85_ok hX n)
abbrev impl_Bits_bit.a : List TS := [.a [.o (.int .i64), .o (.dat 150 (.int .u64))], .c (.o (.int .i64))]
def impl_Bits_bit.u (n : Nat) (v : VA impl_Bits_bit.a) (K : RES → Prop) : Prop := impl_Bits_bit.c n v.1.1 v.1.2.1 v.2.1 (fun r0 => K ⟨.c (.int .u64 r0), []⟩)
theorem impl_Bits_bit_ok : ∀ n v K, impl_Bits_bit.u n v K → callM C X0 n 174 (fillA impl_Bits_bit.a v) K :=
 call_tell hX (fn := Tryz.f174) (c := bodyOf Tryz.f174) (by kernel_rfl) (by kernel_rfl) (A := impl_Bits_bit.a) (u := impl_Bits_bit.u) (fun _ _ h => h) (call := D86) (lp := fun n => noL) (D86_ok hX) (fun n => noL_ok) (fun n v K => by kernel_rfl)
def D87 (n : Nat) : CallF := orC 174 impl_Bits_bit.a (impl_Bits_bit.u n) (D86 n)
theorem D87_ok : ∀ n g a K, D87 n g a K → callM C X0 n g a K := fun n => orC_ok (impl_Bits_bit_ok hX n) (D86_ok hX n)
abbrev impl_Bits_set.a : List TS := [.a [.o (.int .i64), .o (.row 150 (.int .u64) 99)], .c (.o (.int .i64))]
def impl_Bits_set.u (n : Nat) (v : VA impl_Bits_set.a) (K : RES → Prop) : Prop := impl_Bits_set.c n v.1.1 v.1.2.1 v.2.1 (fun r0 r1 => K ⟨.tup [], [[.int .i64 r0, .row ⟨150, .int .u64, r1, 99, none⟩]]⟩)
theorem impl_Bits_set_ok : ∀ n v K, impl_Bits_set.u n v K → callM C X0 n 175 (fillA impl_Bits_set.a v) K :=
 call_tell hX (fn := Tryz.f175) (c := bodyOf Tryz.f175) (by kernel_rfl) (by kernel_rfl) (A := impl_Bits_set.a) (u := impl_Bits_set.u) (fun _ _ h => h) (call := D87) (lp := fun n => noL) (D87_ok hX) (fun n => noL_ok) (fun n v K => by kernel_rfl)
def D88 (n : Nat) : CallF := orC 175 impl_Bits_set.a (impl_Bits_set.u n) (D87 n)
theorem D88_ok : ∀ n g a K, D88 n g a K → callM C X0 n g a K := fun n => orC_ok (impl_Bits_set_ok hX n) (D87_ok hX n)
abbrev impl_Bits_widen.a : List TS := [.a [.o (.int .i64), .o (.dat 150 (.int .u64))], .c (.o (.int .i64)), .c (.o .bool)]
def impl_Bits_widen.u (n : Nat) (v : VA impl_Bits_widen.a) (K : RES → Prop) : Prop := impl_Bits_widen.c n v.1.1 v.1.2.1 v.2.1 v.2.2.1 (fun r0 r1 => K ⟨.agg [.int .i64 r0, .row ⟨150, .int .u64, r1, 99, none⟩], []⟩)
abbrev impl_Bits_widen.l5.s : ST := ⟨[(3, .c (.o (.pbox 3 0))), (6, .c (.o (.pbox 6 0))), (7, .c (.o (.pbox 7 0))), (26, .c (.o (.int .i64))), (27, .c (.o (.int .i64)))], [⟨417, 150, .int .u64, 99⟩, ⟨1000193, 150, .int .u64, 99⟩], [⟨3, 92, [.o (.int .i64), .o (.dat 150 (.int .u64))], false⟩, ⟨6, 92, [.o (.int .i64), .o (.own 1000193)], false⟩, ⟨7, 92, [.o (.int .i64), .o (.own 417)], false⟩], [], []⟩
def impl_Bits_widen.l5.u (n : Nat) (v : impl_Bits_widen.l5.s.V) (K : X → St → Prop) : Prop := impl_Bits_widen.l5 n v.1.2.2.2.1 v.2.1.2.1 v.2.2.1.1 v.2.2.1.2.1 v.2.2.2.1.1 v.2.2.2.2.1.1 v.1.2.2.2.2.1 v.2.1.1 (fun y0 y1 y2 y3 => K (.exit 0) ⟨[(6, .c (.pbox 6 0)), (7, .c (.pbox 7 0))], [(417, ⟨150, .int .u64, y0, 99, none⟩), (1000193, ⟨150, .int .u64, y1, 99, none⟩)], [(6, ⟨92, [.int .i64 y2, .own 1000193], false⟩), (7, ⟨92, [.int .i64 y3, .own 417], false⟩)], [], []⟩)
theorem impl_Bits_widen.l5_ok : ∀ n v K, impl_Bits_widen.l5.u n v K → loopM C X0 n 156 5 (impl_Bits_widen.l5.s.fill v) K :=
 loop_tell hX (fn := Tryz.f156) (c := bodyOf Tryz.f156) (a := loopOf Tryz.f156 5) (li := liOf (C.fi 156).loops 5) (by kernel_rfl) (by kernel_rfl) (of_decide_eq_true rfl) (by kernel_rfl) (by kernel_rfl) (T := impl_Bits_widen.l5.s) (u := impl_Bits_widen.l5.u) (fun _ _ h => h) (call := D88) (lp := fun n => noL) (D88_ok hX) (fun n => noL_ok) (fun n v K => by kernel_rfl)
theorem impl_Bits_widen_ok : ∀ n v K, impl_Bits_widen.u n v K → callM C X0 n 156 (fillA impl_Bits_widen.a v) K :=
 call_tell hX (fn := Tryz.f156) (c := bodyOf Tryz.f156) (by kernel_rfl) (by kernel_rfl) (A := impl_Bits_widen.a) (u := impl_Bits_widen.u) (fun _ _ h => h) (call := D88) (lp := fun n => orL 5 impl_Bits_widen.l5.s (impl_Bits_widen.l5.u n) noL) (D88_ok hX) (fun n => (orL_ok (impl_Bits_widen.l5_ok hX n) noL_ok)) (fun n v K => by kernel_rfl)
def D89 (n : Nat) : CallF := orC 156 impl_Bits_widen.a (impl_Bits_widen.u n) (D88 n)
theorem D89_ok : ∀ n g a K, D89 n g a K → callM C X0 n g a K := fun n => orC_ok (impl_Bits_widen_ok hX n) (D88_ok hX n)
abbrev impl_TNode_apply.a : List TS := [.c (.o (.pdat 145 (.prod (.int .i64) (.prod (.int .i64) (.prod (.int .i64) (.prod (.int .i64) (.prod (.int .i64) (.prod (.sl 150 (.int .u64)) (.sl 2 (.int .i64)))))))) 0)), .c (.o (.dat 92 (.prod (.int .i64) (.sl 150 (.int .u64))))), .c (.o (.dat 92 (.prod (.int .i64) (.sl 150 (.int .u64)))))]
def impl_TNode_apply.u (n : Nat) (v : VA impl_TNode_apply.a) (K : RES → Prop) : Prop := impl_TNode_apply.c n v.1 v.2.1 v.2.2.1 (fun r0 r1 => K ⟨.agg [.int .i64 r0, .dat 150 (.int .u64) r1], []⟩)
abbrev impl_TNode_apply.l9.s : ST := ⟨[(6, .c (.o (.pbox 6 0))), (7, .c (.o (.pbox 7 0))), (36, .c (.o (.dat 92 (.prod (.int .i64) (.sl 150 (.int .u64)))))), (37, .c (.o (.int .i64))), (38, .c (.o (.int .i64)))], [⟨1000193, 150, .int .u64, 99⟩], [⟨6, 92, [.o (.int .i64), .o (.own 1000193)], false⟩, ⟨7, 92, [.o (.int .i64), .o (.dat 150 (.int .u64))], false⟩], [], []⟩
def impl_TNode_apply.l9.u (n : Nat) (v : impl_TNode_apply.l9.s.V) (K : X → St → Prop) : Prop := impl_TNode_apply.l9 n v.1.2.2.1 v.1.2.2.2.1 v.2.1.1 v.2.2.1.1 v.1.2.2.2.2.1 v.2.2.2.1.1 v.2.2.2.1.2.1 (fun y0 y1 y2 y3 => K (.exit 1) ⟨[(6, .c (.pbox 6 0)), (7, .c (.pbox 7 0))], [(1000193, ⟨150, .int .u64, y0, 99, none⟩)], [(6, ⟨92, [.int .i64 y1, .own 1000193], false⟩), (7, ⟨92, [.int .i64 y2, .dat 150 (.int .u64) y3], false⟩)], [], []⟩)
theorem impl_TNode_apply.l9_ok : ∀ n v K, impl_TNode_apply.l9.u n v K → loopM C X0 n 117 9 (impl_TNode_apply.l9.s.fill v) K :=
 loop_tell hX (fn := Tryz.f117) (c := bodyOf Tryz.f117) (a := loopOf Tryz.f117 9) (li := liOf (C.fi 117).loops 9) (by kernel_rfl) (by kernel_rfl) (of_decide_eq_true rfl) (by kernel_rfl) (by kernel_rfl) (T := impl_TNode_apply.l9.s) (u := impl_TNode_apply.l9.u) (fun _ _ h => h) (call := D89) (lp := fun n => noL) (D89_ok hX) (fun n => noL_ok) (fun n v K => by kernel_rfl)
theorem impl_TNode_apply_ok : ∀ n v K, impl_TNode_apply.u n v K → callM C X0 n 117 (fillA impl_TNode_apply.a v) K :=
 call_tell hX (fn := Tryz.f117) (c := bodyOf Tryz.f117) (by kernel_rfl) (by kernel_rfl) (A := impl_TNode_apply.a) (u := impl_TNode_apply.u) (fun _ _ h => h) (call := D89) (lp := fun n => orL 9 impl_TNode_apply.l9.s (impl_TNode_apply.l9.u n) noL) (D89_ok hX) (fun n => (orL_ok (impl_TNode_apply.l9_ok hX n) noL_ok)) (fun n v K => by kernel_rfl)
def D90 (n : Nat) : CallF := orC 117 impl_TNode_apply.a (impl_TNode_apply.u n) (D89 n)
theorem D90_ok : ∀ n g a K, D90 n g a K → callM C X0 n g a K := fun n => orC_ok (impl_TNode_apply_ok hX n) (D89_ok hX n)
abbrev impl_eval.a : List TS := [.c (.o (.dat 92 (.prod (.int .i64) (.sl 150 (.int .u64))))), .a [.o (.dat 145 (.prod (.int .i64) (.prod (.int .i64) (.prod (.int .i64) (.prod (.int .i64) (.prod (.int .i64) (.prod (.sl 150 (.int .u64)) (.sl 2 (.int .i64)))))))))]]
def impl_eval.u (n : Nat) (v : VA impl_eval.a) (K : RES → Prop) : Prop := impl_eval.c n v.1 v.2.1.1 (fun r0 r1 => K ⟨.agg [.int .i64 r0, .row ⟨150, .int .u64, r1, 99, none⟩], []⟩)
abbrev impl_eval.l8.s : ST := ⟨[(0, .c (.o (.dat 92 (.prod (.int .i64) (.sl 150 (.int .u64)))))), (3, .c (.o (.pbox 3 0))), (4, .c (.o (.pbox 4 0))), (5, .c (.o (.own 160))), (6, .c (.o (.int .i64))), (7, .c (.o (.pdat 145 (.prod (.int .i64) (.prod (.int .i64) (.prod (.int .i64) (.prod (.int .i64) (.prod (.int .i64) (.prod (.sl 150 (.int .u64)) (.sl 2 (.int .i64)))))))) 0))), (8, .c (.o (.own 256))), (17, .c (.o (.int .i64))), (18, .c (.o (.int .i64))), (34, .c (.o (.dat 2 (.int .i64)))), (35, .c (.o (.int .i64))), (36, .c (.o (.int .i64)))], [⟨160, 92, .prod (.int .i64) (.sl 150 (.int .u64)), 1⟩, ⟨256, 92, .prod (.int .i64) (.sl 150 (.int .u64)), 1⟩, ⟨1000129, 150, .int .u64, 99⟩], [⟨3, 89, [.o (.dat 145 (.prod (.int .i64) (.prod (.int .i64) (.prod (.int .i64) (.prod (.int .i64) (.prod (.int .i64) (.prod (.sl 150 (.int .u64)) (.sl 2 (.int .i64)))))))))], false⟩, ⟨4, 92, [.o (.int .i64), .o (.own 1000129)], false⟩], [], []⟩
def impl_eval.l8.u (n : Nat) (v : impl_eval.l8.s.V) (K : X → St → Prop) : Prop := impl_eval.l8 n v.1.1 v.1.2.2.2.2.1 v.1.2.2.2.2.2.1 v.1.2.2.2.2.2.2.2.1 v.1.2.2.2.2.2.2.2.2.1 v.1.2.2.2.2.2.2.2.2.2.1 v.1.2.2.2.2.2.2.2.2.2.2.1 v.2.1.1 v.2.1.2.2.1 v.2.2.1.1 v.2.2.2.1.1 v.1.2.2.2.2.2.2.2.2.2.2.2.1 v.2.1.2.1 (fun y0 y1 y2 y3 y4 y5 y6 y7 y8 y9 => K (.exit 2) ⟨[(0, .c (.dat 92 (.prod (.int .i64) (.sl 150 (.int .u64))) y0)), (3, .c (.pbox 3 0)), (4, .c (.pbox 4 0)), (5, .c (.own 160)), (6, .c (.int .i64 y1)), (7, .c (.pdat 145 (.prod (.int .i64) (.prod (.int .i64) (.prod (.int .i64) (.prod (.int .i64) (.prod (.int .i64) (.prod (.sl 150 (.int .u64)) (.sl 2 (.int .i64)))))))) y2 0)), (8, .c (.own 256)), (17, .c (.int .i64 y3)), (18, .c (.int .i64 y4))], [(160, ⟨92, .prod (.int .i64) (.sl 150 (.int .u64)), y5, 1, none⟩), (256, ⟨92, .prod (.int .i64) (.sl 150 (.int .u64)), y6, 1, none⟩), (1000129, ⟨150, .int .u64, y7, 99, none⟩)], [(3, ⟨89, [.dat 145 (.prod (.int .i64) (.prod (.int .i64) (.prod (.int .i64) (.prod (.int .i64) (.prod (.int .i64) (.prod (.sl 150 (.int .u64)) (.sl 2 (.int .i64)))))))) y8], false⟩), (4, ⟨92, [.int .i64 y9, .own 1000129], false⟩)], [], []⟩)
abbrev impl_eval.l3.s : ST := ⟨[(0, .c (.o (.dat 92 (.prod (.int .i64) (.sl 150 (.int .u64)))))), (3, .c (.o (.pbox 3 0))), (4, .c (.o (.pbox 4 0))), (5, .c (.o (.own 160))), (17, .c (.o (.int .i64))), (18, .c (.o (.int .i64)))], [⟨160, 92, .prod (.int .i64) (.sl 150 (.int .u64)), 1⟩, ⟨1000129, 150, .int .u64, 99⟩], [⟨3, 89, [.o (.dat 145 (.prod (.int .i64) (.prod (.int .i64) (.prod (.int .i64) (.prod (.int .i64) (.prod (.int .i64) (.prod (.sl 150 (.int .u64)) (.sl 2 (.int .i64)))))))))], false⟩, ⟨4, 92, [.o (.int .i64), .o (.own 1000129)], false⟩], [], []⟩
def impl_eval.l3.u (n : Nat) (v : impl_eval.l3.s.V) (K : X → St → Prop) : Prop := impl_eval.l3 n v.1.1 v.1.2.2.2.2.1 v.1.2.2.2.2.2.1 v.2.1.1 v.2.1.2.1 v.2.2.1.1 v.2.2.2.1.1 (fun y0 y1 y2 => K (.exit 0) ⟨[(4, .c (.pbox 4 0)), (5, .c (.own 160))], [(160, ⟨92, .prod (.int .i64) (.sl 150 (.int .u64)), y0, 1, none⟩), (1000129, ⟨150, .int .u64, y1, 99, none⟩)], [(4, ⟨92, [.int .i64 y2, .own 1000129], false⟩)], [], []⟩)
theorem impl_eval.l8_ok : ∀ n v K, impl_eval.l8.u n v K → loopM C X0 n 61 8 (impl_eval.l8.s.fill v) K :=
 loop_tell hX (fn := Tryz.f61) (c := bodyOf Tryz.f61) (a := loopOf Tryz.f61 8) (li := liOf (C.fi 61).loops 8) (by kernel_rfl) (by kernel_rfl) (of_decide_eq_true rfl) (by kernel_rfl) (by kernel_rfl) (T := impl_eval.l8.s) (u := impl_eval.l8.u) (fun _ _ h => h) (call := D90) (lp := fun n => noL) (D90_ok hX) (fun n => noL_ok) (fun n v K => by kernel_rfl)
theorem impl_eval.l3_ok : ∀ n v K, impl_eval.l3.u n v K → loopM C X0 n 61 3 (impl_eval.l3.s.fill v) K :=
 loop_tell hX (fn := Tryz.f61) (c := bodyOf Tryz.f61) (a := loopOf Tryz.f61 3) (li := liOf (C.fi 61).loops 3) (by kernel_rfl) (by kernel_rfl) (of_decide_eq_true rfl) (by kernel_rfl) (by kernel_rfl) (T := impl_eval.l3.s) (u := impl_eval.l3.u) (fun _ _ h => h) (call := D90) (lp := fun n => orL 8 impl_eval.l8.s (impl_eval.l8.u n) noL) (D90_ok hX) (fun n => (orL_ok (impl_eval.l8_ok hX n) noL_ok)) (fun n v K => by kernel_rfl)
theorem impl_eval_ok : ∀ n v K, impl_eval.u n v K → callM C X0 n 61 (fillA impl_eval.a v) K :=
 call_tell hX (fn := Tryz.f61) (c := bodyOf Tryz.f61) (by kernel_rfl) (by kernel_rfl) (A := impl_eval.a) (u := impl_eval.u) (fun _ _ h => h) (call := D90) (lp := fun n => orL 3 impl_eval.l3.s (impl_eval.l3.u n) noL) (D90_ok hX) (fun n => (orL_ok (impl_eval.l3_ok hX n) noL_ok)) (fun n v K => by kernel_rfl)
def D91 (n : Nat) : CallF := orC 61 impl_eval.a (impl_eval.u n) (D90 n)
theorem D91_ok : ∀ n g a K, D91 n g a K → callM C X0 n g a K := fun n => orC_ok (impl_eval_ok hX n) (D90_ok hX n)
abbrev impl_Bind.a : List TS := [.c (.o (.dat 95 (.prod .str (.int .i64)))), .c (.o (.dat 91 (.prod (.int .i64) (.sl 145 (.prod (.int .i64) (.prod (.int .i64) (.prod (.int .i64) (.prod (.int .i64) (.prod (.int .i64) (.prod (.sl 150 (.int .u64)) (.sl 2 (.int .i64)))))))))))), .c (.o (.dat 92 (.prod (.int .i64) (.sl 150 (.int .u64)))))]
def impl_Bind.u (n : Nat) (v : VA impl_Bind.a) (K : RES → Prop) : Prop := impl_Bind.c n v.1 v.2.1 v.2.2.1 (fun r0 r1 => K ⟨.tup [.c (.row ⟨92, .prod (.int .i64) (.sl 150 (.int .u64)), r0, 99, none⟩), .c (.bool r1)], []⟩)
abbrev impl_Bind.l7.s : ST := ⟨[(1, .c (.o (.dat 91 (.prod (.int .i64) (.sl 145 (.prod (.int .i64) (.prod (.int .i64) (.prod (.int .i64) (.prod (.int .i64) (.prod (.int .i64) (.prod (.sl 150 (.int .u64)) (.sl 2 (.int .i64))))))))))))), (8, .c (.o (.own 832))), (27, .c (.o (.dat 92 (.prod (.int .i64) (.sl 150 (.int .u64)))))), (28, .c (.o (.int .i64))), (29, .c (.o (.int .i64)))], [⟨832, 92, .prod (.int .i64) (.sl 150 (.int .u64)), 99⟩], [], [], []⟩
def impl_Bind.l7.u (n : Nat) (v : impl_Bind.l7.s.V) (K : X → St → Prop) : Prop := impl_Bind.l7 n v.1.1 v.1.2.2.1 v.1.2.2.2.1 v.1.2.2.2.2.1 v.2.1.1 (fun y0 y1 => K (.exit 0) ⟨[(1, .c (.dat 91 (.prod (.int .i64) (.sl 145 (.prod (.int .i64) (.prod (.int .i64) (.prod (.int .i64) (.prod (.int .i64) (.prod (.int .i64) (.prod (.sl 150 (.int .u64)) (.sl 2 (.int .i64)))))))))) y0)), (8, .c (.own 832))], [(832, ⟨92, .prod (.int .i64) (.sl 150 (.int .u64)), y1, 99, none⟩)], [], [], []⟩)
abbrev impl_Bind.l12.s : ST := ⟨[(1, .c (.o (.dat 91 (.prod (.int .i64) (.sl 145 (.prod (.int .i64) (.prod (.int .i64) (.prod (.int .i64) (.prod (.int .i64) (.prod (.int .i64) (.prod (.sl 150 (.int .u64)) (.sl 2 (.int .i64))))))))))))), (8, .c (.o (.own 832))), (11, .c (.o (.int .i64)))], [⟨832, 92, .prod (.int .i64) (.sl 150 (.int .u64)), 99⟩], [], [], []⟩
def impl_Bind.l12.u (n : Nat) (v : impl_Bind.l12.s.V) (K : X → St → Prop) : Prop := impl_Bind.l12 n v.1.1 v.1.2.2.1 v.2.1.1 (fun y0 => K (.exit 2) ⟨[(8, .c (.own 832))], [(832, ⟨92, .prod (.int .i64) (.sl 150 (.int .u64)), y0, 99, none⟩)], [], [], []⟩)
theorem impl_Bind.l7_ok : ∀ n v K, impl_Bind.l7.u n v K → loopM C X0 n 16 7 (impl_Bind.l7.s.fill v) K :=
 loop_tell hX (fn := Tryz.f16) (c := bodyOf Tryz.f16) (a := loopOf Tryz.f16 7) (li := liOf (C.fi 16).loops 7) (by kernel_rfl) (by kernel_rfl) (of_decide_eq_true rfl) (by kernel_rfl) (by kernel_rfl) (T := impl_Bind.l7.s) (u := impl_Bind.l7.u) (fun _ _ h => h) (call := D91) (lp := fun n => noL) (D91_ok hX) (fun n => noL_ok) (fun n v K => by kernel_rfl)
theorem impl_Bind.l12_ok : ∀ n v K, impl_Bind.l12.u n v K → loopM C X0 n 16 12 (impl_Bind.l12.s.fill v) K :=
 loop_tell hX (fn := Tryz.f16) (c := bodyOf Tryz.f16) (a := loopOf Tryz.f16 12) (li := liOf (C.fi 16).loops 12) (by kernel_rfl) (by kernel_rfl) (of_decide_eq_true rfl) (by kernel_rfl) (by kernel_rfl) (T := impl_Bind.l12.s) (u := impl_Bind.l12.u) (fun _ _ h => h) (call := D91) (lp := fun n => noL) (D91_ok hX) (fun n => noL_ok) (fun n v K => by kernel_rfl)
theorem impl_Bind_ok : ∀ n v K, impl_Bind.u n v K → callM C X0 n 16 (fillA impl_Bind.a v) K :=
 call_tell hX (fn := Tryz.f16) (c := bodyOf Tryz.f16) (by kernel_rfl) (by kernel_rfl) (A := impl_Bind.a) (u := impl_Bind.u) (fun _ _ h => h) (call := D91) (lp := fun n => orL 7 impl_Bind.l7.s (impl_Bind.l7.u n) (orL 12 impl_Bind.l12.s (impl_Bind.l12.u n) noL)) (D91_ok hX) (fun n => (orL_ok (impl_Bind.l7_ok hX n) (orL_ok (impl_Bind.l12_ok hX n) noL_ok))) (fun n v K => by kernel_rfl)
def D92 (n : Nat) : CallF := orC 16 impl_Bind.a (impl_Bind.u n) (D91 n)
theorem D92_ok : ∀ n g a K, D92 n g a K → callM C X0 n g a K := fun n => orC_ok (impl_Bind_ok hX n) (D91_ok hX n)
abbrev laws_eqBitsS.a : List TS := [.c (.o (.dat 92 (.prod (.int .i64) (.sl 150 (.int .u64))))), .c (.o (.dat 92 (.prod (.int .i64) (.sl 150 (.int .u64)))))]
def laws_eqBitsS.u (n : Nat) (v : VA laws_eqBitsS.a) (K : RES → Prop) : Prop := laws_eqBitsS.c n v.1 v.2.1 (fun r0 => K ⟨.c (.bool r0), []⟩)
abbrev laws_eqBitsS.l4.s : ST := ⟨[(0, .c (.o (.dat 92 (.prod (.int .i64) (.sl 150 (.int .u64)))))), (1, .c (.o (.dat 92 (.prod (.int .i64) (.sl 150 (.int .u64)))))), (5, .c (.o (.int .i64)))], [], [], [], []⟩
def laws_eqBitsS.l4.u (n : Nat) (v : laws_eqBitsS.l4.s.V) (K : X → St → Prop) : Prop := laws_eqBitsS.l4 n v.1.1 v.1.2.1 v.1.2.2.1 (K (.exit 0) ⟨[], [], [], [], []⟩) (fun y0 => K .ret ⟨[(4, .c (.bool y0))], [], [], [], []⟩)
theorem laws_eqBitsS.l4_ok : ∀ n v K, laws_eqBitsS.l4.u n v K → loopM C X0 n 17 4 (laws_eqBitsS.l4.s.fill v) K :=
 loop_tell hX (fn := Tryz.f17) (c := bodyOf Tryz.f17) (a := loopOf Tryz.f17 4) (li := liOf (C.fi 17).loops 4) (by kernel_rfl) (by kernel_rfl) (of_decide_eq_true rfl) (by kernel_rfl) (by kernel_rfl) (T := laws_eqBitsS.l4.s) (u := laws_eqBitsS.l4.u) (fun _ _ h => h) (call := D92) (lp := fun n => noL) (D92_ok hX) (fun n => noL_ok) (fun n v K => by kernel_rfl)
theorem laws_eqBitsS_ok : ∀ n v K, laws_eqBitsS.u n v K → callM C X0 n 17 (fillA laws_eqBitsS.a v) K :=
 call_tell hX (fn := Tryz.f17) (c := bodyOf Tryz.f17) (by kernel_rfl) (by kernel_rfl) (A := laws_eqBitsS.a) (u := laws_eqBitsS.u) (fun _ _ h => h) (call := D92) (lp := fun n => orL 4 laws_eqBitsS.l4.s (laws_eqBitsS.l4.u n) noL) (D92_ok hX) (fun n => (orL_ok (laws_eqBitsS.l4_ok hX n) noL_ok)) (fun n v K => by kernel_rfl)
def D93 (n : Nat) : CallF := orC 17 laws_eqBitsS.a (laws_eqBitsS.u n) (D92 n)
theorem D93_ok : ∀ n g a K, D93 n g a K → callM C X0 n g a K := fun n => orC_ok (laws_eqBitsS_ok hX n) (D92_ok hX n)
abbrev laws_eqBinding.a : List TS := [.a [.o (.int .i64), .o (.dat 145 (.prod (.int .i64) (.prod (.int .i64) (.prod (.int .i64) (.prod (.int .i64) (.prod (.int .i64) (.prod (.sl 150 (.int .u64)) (.sl 2 (.int .i64)))))))))], .a [.o (.int .i64), .o (.dat 145 (.prod (.int .i64) (.prod (.int .i64) (.prod (.int .i64) (.prod (.int .i64) (.prod (.int .i64) (.prod (.sl 150 (.int .u64)) (.sl 2 (.int .i64)))))))))]]
def laws_eqBinding.u (n : Nat) (v : VA laws_eqBinding.a) (K : RES → Prop) : Prop := laws_eqBinding.c n v.1.1 v.1.2.1 v.2.1.1 v.2.1.2.1 (fun r0 => K ⟨.c (.bool r0), []⟩)
theorem laws_eqBinding_ok : ∀ n v K, laws_eqBinding.u n v K → callM C X0 n 64 (fillA laws_eqBinding.a v) K :=
 call_tell hX (fn := Tryz.f64) (c := bodyOf Tryz.f64) (by kernel_rfl) (by kernel_rfl) (A := laws_eqBinding.a) (u := laws_eqBinding.u) (fun _ _ h => h) (call := D93) (lp := fun n => noL) (D93_ok hX) (fun n => noL_ok) (fun n v K => by kernel_rfl)
def D94 (n : Nat) : CallF := orC 64 laws_eqBinding.a (laws_eqBinding.u n) (D93 n)
theorem D94_ok : ∀ n g a K, D94 n g a K → callM C X0 n g a K := fun n => orC_ok (laws_eqBinding_ok hX n) (D93_ok hX n)
abbrev laws_eqBindingS.a : List TS := [.c (.o (.dat 91 (.prod (.int .i64) (.sl 145 (.prod (.int .i64) (.prod (.int .i64) (.prod (.int .i64) (.prod (.int .i64) (.prod (.int .i64) (.prod (.sl 150 (.int .u64)) (.sl 2 (.int .i64)))))))))))), .c (.o (.dat 91 (.prod (.int .i64) (.sl 145 (.prod (.int .i64) (.prod (.int .i64) (.prod (.int .i64) (.prod (.int .i64) (.prod (.int .i64) (.prod (.sl 150 (.int .u64)) (.sl 2 (.int .i64))))))))))))]
def laws_eqBindingS.u (n : Nat) (v : VA laws_eqBindingS.a) (K : RES → Prop) : Prop := laws_eqBindingS.c n v.1 v.2.1 (fun r0 => K ⟨.c (.bool r0), []⟩)
abbrev laws_eqBindingS.l4.s : ST := ⟨[(0, .c (.o (.dat 91 (.prod (.int .i64) (.sl 145 (.prod (.int .i64) (.prod (.int .i64) (.prod (.int .i64) (.prod (.int .i64) (.prod (.int .i64) (.prod (.sl 150 (.int .u64)) (.sl 2 (.int .i64))))))))))))), (1, .c (.o (.dat 91 (.prod (.int .i64) (.sl 145 (.prod (.int .i64) (.prod (.int .i64) (.prod (.int .i64) (.prod (.int .i64) (.prod (.int .i64) (.prod (.sl 150 (.int .u64)) (.sl 2 (.int .i64))))))))))))), (5, .c (.o (.int .i64)))], [], [], [], []⟩
def laws_eqBindingS.l4.u (n : Nat) (v : laws_eqBindingS.l4.s.V) (K : X → St → Prop) : Prop := laws_eqBindingS.l4 n v.1.1 v.1.2.1 v.1.2.2.1 (K (.exit 0) ⟨[], [], [], [], []⟩) (fun y0 => K .ret ⟨[(4, .c (.bool y0))], [], [], [], []⟩)
theorem laws_eqBindingS.l4_ok : ∀ n v K, laws_eqBindingS.l4.u n v K → loopM C X0 n 19 4 (laws_eqBindingS.l4.s.fill v) K :=
 loop_tell hX (fn := Tryz.f19) (c := bodyOf Tryz.f19) (a := loopOf Tryz.f19 4) (li := liOf (C.fi 19).loops 4) (by kernel_rfl) (by kernel_rfl) (of_decide_eq_true rfl) (by kernel_rfl) (by kernel_rfl) (T := laws_eqBindingS.l4.s) (u := laws_eqBindingS.l4.u) (fun _ _ h => h) (call := D94) (lp := fun n => noL) (D94_ok hX) (fun n => noL_ok) (fun n v K => by kernel_rfl)
theorem laws_eqBindingS_ok : ∀ n v K, laws_eqBindingS.u n v K → callM C X0 n 19 (fillA laws_eqBindingS.a v) K :=
 call_tell hX (fn := Tryz.f19) (c := bodyOf Tryz.f19) (by kernel_rfl) (by kernel_rfl) (A := laws_eqBindingS.a) (u := laws_eqBindingS.u) (fun _ _ h => h) (call := D94) (lp := fun n => orL 4 laws_eqBindingS.l4.s (laws_eqBindingS.l4.u n) noL) (D94_ok hX) (fun n => (orL_ok (laws_eqBindingS.l4_ok hX n) noL_ok)) (fun n v K => by kernel_rfl)
def D95 (n : Nat) : CallF := orC 19 laws_eqBindingS.a (laws_eqBindingS.u n) (D94 n)
theorem D95_ok : ∀ n g a K, D95 n g a K → callM C X0 n g a K := fun n => orC_ok (laws_eqBindingS_ok hX n) (D94_ok hX n)
abbrev laws_markUint64S_1.a : List TS := [.c (.o (.row 150 (.int .u64) 97)), .c (.o (.int .i64))]
def laws_markUint64S_1.u (n : Nat) (v : VA laws_markUint64S_1.a) (K : RES → Prop) : Prop := laws_markUint64S_1.c n v.1 v.2.1 (fun r0 r1 => K ⟨.c (.int .i64 r0), [[.row ⟨150, .int .u64, r1, 97, none⟩]]⟩)
abbrev laws_markUint64S_1.l2.s : ST := ⟨[(0, .c (.o (.own 0))), (1, .c (.o (.int .i64))), (5, .c (.o (.int .i64)))], [⟨0, 150, .int .u64, 97⟩], [], [0], []⟩
def laws_markUint64S_1.l2.u (n : Nat) (v : laws_markUint64S_1.l2.s.V) (K : X → St → Prop) : Prop := laws_markUint64S_1.l2 n v.1.2.1 v.1.2.2.1 v.2.1.1 (fun y0 y1 => K (.exit 0) ⟨[(1, .c (.int .i64 y0))], [(0, ⟨150, .int .u64, y1, 97, none⟩)], [], [0], []⟩)
theorem laws_markUint64S_1.l2_ok : ∀ n v K, laws_markUint64S_1.l2.u n v K → loopM C X0 n 67 2 (laws_markUint64S_1.l2.s.fill v) K :=
 loop_tell hX (fn := Tryz.f67) (c := bodyOf Tryz.f67) (a := loopOf Tryz.f67 2) (li := liOf (C.fi 67).loops 2) (by kernel_rfl) (by kernel_rfl) (of_decide_eq_true rfl) (by kernel_rfl) (by kernel_rfl) (T := laws_markUint64S_1.l2.s) (u := laws_markUint64S_1.l2.u) (fun _ _ h => h) (call := D95) (lp := fun n => noL) (D95_ok hX) (fun n => noL_ok) (fun n v K => by kernel_rfl)
theorem laws_markUint64S_1_ok : ∀ n v K, laws_markUint64S_1.u n v K → callM C X0 n 67 (fillA laws_markUint64S_1.a v) K :=
 call_tell hX (fn := Tryz.f67) (c := bodyOf Tryz.f67) (by kernel_rfl) (by kernel_rfl) (A := laws_markUint64S_1.a) (u := laws_markUint64S_1.u) (fun _ _ h => h) (call := D95) (lp := fun n => orL 2 laws_markUint64S_1.l2.s (laws_markUint64S_1.l2.u n) noL) (D95_ok hX) (fun n => (orL_ok (laws_markUint64S_1.l2_ok hX n) noL_ok)) (fun n v K => by kernel_rfl)
def D96 (n : Nat) : CallF := orC 67 laws_markUint64S_1.a (laws_markUint64S_1.u n) (D95 n)
theorem D96_ok : ∀ n g a K, D96 n g a K → callM C X0 n g a K := fun n => orC_ok (laws_markUint64S_1_ok hX n) (D95_ok hX n)
abbrev laws_markInt64S_1.a : List TS := [.c (.o (.row 2 (.int .i64) 97)), .c (.o (.int .i64))]
def laws_markInt64S_1.u (n : Nat) (v : VA laws_markInt64S_1.a) (K : RES → Prop) : Prop := laws_markInt64S_1.c n v.1 v.2.1 (fun r0 r1 => K ⟨.c (.int .i64 r0), [[.row ⟨2, .int .i64, r1, 97, none⟩]]⟩)
abbrev laws_markInt64S_1.l2.s : ST := ⟨[(0, .c (.o (.own 0))), (1, .c (.o (.int .i64))), (5, .c (.o (.int .i64)))], [⟨0, 2, .int .i64, 97⟩], [], [0], []⟩
def laws_markInt64S_1.l2.u (n : Nat) (v : laws_markInt64S_1.l2.s.V) (K : X → St → Prop) : Prop := laws_markInt64S_1.l2 n v.1.2.1 v.1.2.2.1 v.2.1.1 (fun y0 y1 => K (.exit 0) ⟨[(1, .c (.int .i64 y0))], [(0, ⟨2, .int .i64, y1, 97, none⟩)], [], [0], []⟩)
theorem laws_markInt64S_1.l2_ok : ∀ n v K, laws_markInt64S_1.l2.u n v K → loopM C X0 n 31 2 (laws_markInt64S_1.l2.s.fill v) K :=
 loop_tell hX (fn := Tryz.f31) (c := bodyOf Tryz.f31) (a := loopOf Tryz.f31 2) (li := liOf (C.fi 31).loops 2) (by kernel_rfl) (by kernel_rfl) (of_decide_eq_true rfl) (by kernel_rfl) (by kernel_rfl) (T := laws_markInt64S_1.l2.s) (u := laws_markInt64S_1.l2.u) (fun _ _ h => h) (call := D96) (lp := fun n => noL) (D96_ok hX) (fun n => noL_ok) (fun n v K => by kernel_rfl)
theorem laws_markInt64S_1_ok : ∀ n v K, laws_markInt64S_1.u n v K → callM C X0 n 31 (fillA laws_markInt64S_1.a v) K :=
 call_tell hX (fn := Tryz.f31) (c := bodyOf Tryz.f31) (by kernel_rfl) (by kernel_rfl) (A := laws_markInt64S_1.a) (u := laws_markInt64S_1.u) (fun _ _ h => h) (call := D96) (lp := fun n => orL 2 laws_markInt64S_1.l2.s (laws_markInt64S_1.l2.u n) noL) (D96_ok hX) (fun n => (orL_ok (laws_markInt64S_1.l2_ok hX n) noL_ok)) (fun n v K => by kernel_rfl)
def D97 (n : Nat) : CallF := orC 31 laws_markInt64S_1.a (laws_markInt64S_1.u n) (D96 n)
theorem D97_ok : ∀ n g a K, D97 n g a K → callM C X0 n g a K := fun n => orC_ok (laws_markInt64S_1_ok hX n) (D96_ok hX n)
abbrev laws_markTNodeS_1.a : List TS := [.c (.o (.row 145 (.prod (.int .i64) (.prod (.int .i64) (.prod (.int .i64) (.prod (.int .i64) (.prod (.int .i64) (.prod (.sl 150 (.int .u64)) (.sl 2 (.int .i64)))))))) 98)), .c (.o (.int .i64))]
def laws_markTNodeS_1.u (n : Nat) (v : VA laws_markTNodeS_1.a) (K : RES → Prop) : Prop := laws_markTNodeS_1.c n v.1 v.2.1 (fun r0 r1 => K ⟨.c (.int .i64 r0), [[.row ⟨145, .prod (.int .i64) (.prod (.int .i64) (.prod (.int .i64) (.prod (.int .i64) (.prod (.int .i64) (.prod (.sl 150 (.int .u64)) (.sl 2 (.int .i64))))))), r1, 98, none⟩]]⟩)
abbrev laws_markTNodeS_1.l2.s : ST := ⟨[(0, .c (.o (.own 0))), (1, .c (.o (.int .i64))), (5, .c (.o (.int .i64)))], [⟨0, 145, .prod (.int .i64) (.prod (.int .i64) (.prod (.int .i64) (.prod (.int .i64) (.prod (.int .i64) (.prod (.sl 150 (.int .u64)) (.sl 2 (.int .i64))))))), 98⟩], [], [0], []⟩
def laws_markTNodeS_1.l2.u (n : Nat) (v : laws_markTNodeS_1.l2.s.V) (K : X → St → Prop) : Prop := laws_markTNodeS_1.l2 n v.1.2.1 v.1.2.2.1 v.2.1.1 (fun y0 y1 => K (.exit 0) ⟨[(1, .c (.int .i64 y0))], [(0, ⟨145, .prod (.int .i64) (.prod (.int .i64) (.prod (.int .i64) (.prod (.int .i64) (.prod (.int .i64) (.prod (.sl 150 (.int .u64)) (.sl 2 (.int .i64))))))), y1, 98, none⟩)], [], [0], []⟩)
theorem laws_markTNodeS_1.l2_ok : ∀ n v K, laws_markTNodeS_1.l2.u n v K → loopM C X0 n 66 2 (laws_markTNodeS_1.l2.s.fill v) K :=
 loop_tell hX (fn := Tryz.f66) (c := bodyOf Tryz.f66) (a := loopOf Tryz.f66 2) (li := liOf (C.fi 66).loops 2) (by kernel_rfl) (by kernel_rfl) (of_decide_eq_true rfl) (by kernel_rfl) (by kernel_rfl) (T := laws_markTNodeS_1.l2.s) (u := laws_markTNodeS_1.l2.u) (fun _ _ h => h) (call := D97) (lp := fun n => noL) (D97_ok hX) (fun n => noL_ok) (fun n v K => by kernel_rfl)
theorem laws_markTNodeS_1_ok : ∀ n v K, laws_markTNodeS_1.u n v K → callM C X0 n 66 (fillA laws_markTNodeS_1.a v) K :=
 call_tell hX (fn := Tryz.f66) (c := bodyOf Tryz.f66) (by kernel_rfl) (by kernel_rfl) (A := laws_markTNodeS_1.a) (u := laws_markTNodeS_1.u) (fun _ _ h => h) (call := D97) (lp := fun n => orL 2 laws_markTNodeS_1.l2.s (laws_markTNodeS_1.l2.u n) noL) (D97_ok hX) (fun n => (orL_ok (laws_markTNodeS_1.l2_ok hX n) noL_ok)) (fun n v K => by kernel_rfl)
def D98 (n : Nat) : CallF := orC 66 laws_markTNodeS_1.a (laws_markTNodeS_1.u n) (D97 n)
theorem D98_ok : ∀ n g a K, D98 n g a K → callM C X0 n g a K := fun n => orC_ok (laws_markTNodeS_1_ok hX n) (D97_ok hX n)
abbrev laws_markBindingS.a : List TS := [.c (.o (.row 91 (.prod (.int .i64) (.sl 145 (.prod (.int .i64) (.prod (.int .i64) (.prod (.int .i64) (.prod (.int .i64) (.prod (.int .i64) (.prod (.sl 150 (.int .u64)) (.sl 2 (.int .i64)))))))))) 99)), .c (.o (.int .i64))]
def laws_markBindingS.u (n : Nat) (v : VA laws_markBindingS.a) (K : RES → Prop) : Prop := laws_markBindingS.c n v.1 v.2.1 (fun r0 r1 => K ⟨.c (.int .i64 r0), [[.row ⟨91, .prod (.int .i64) (.sl 145 (.prod (.int .i64) (.prod (.int .i64) (.prod (.int .i64) (.prod (.int .i64) (.prod (.int .i64) (.prod (.sl 150 (.int .u64)) (.sl 2 (.int .i64))))))))), r1, 99, none⟩]]⟩)
abbrev laws_markBindingS.l2.s : ST := ⟨[(0, .c (.o (.own 0))), (1, .c (.o (.int .i64))), (5, .c (.o (.int .i64)))], [⟨0, 91, .prod (.int .i64) (.sl 145 (.prod (.int .i64) (.prod (.int .i64) (.prod (.int .i64) (.prod (.int .i64) (.prod (.int .i64) (.prod (.sl 150 (.int .u64)) (.sl 2 (.int .i64))))))))), 99⟩], [], [0], []⟩
def laws_markBindingS.l2.u (n : Nat) (v : laws_markBindingS.l2.s.V) (K : X → St → Prop) : Prop := laws_markBindingS.l2 n v.1.2.1 v.1.2.2.1 v.2.1.1 (fun y0 y1 => K (.exit 0) ⟨[(1, .c (.int .i64 y0))], [(0, ⟨91, .prod (.int .i64) (.sl 145 (.prod (.int .i64) (.prod (.int .i64) (.prod (.int .i64) (.prod (.int .i64) (.prod (.int .i64) (.prod (.sl 150 (.int .u64)) (.sl 2 (.int .i64))))))))), y1, 99, none⟩)], [], [0], []⟩)
theorem laws_markBindingS.l2_ok : ∀ n v K, laws_markBindingS.l2.u n v K → loopM C X0 n 21 2 (laws_markBindingS.l2.s.fill v) K :=
 loop_tell hX (fn := Tryz.f21) (c := bodyOf Tryz.f21) (a := loopOf Tryz.f21 2) (li := liOf (C.fi 21).loops 2) (by kernel_rfl) (by kernel_rfl) (of_decide_eq_true rfl) (by kernel_rfl) (by kernel_rfl) (T := laws_markBindingS.l2.s) (u := laws_markBindingS.l2.u) (fun _ _ h => h) (call := D98) (lp := fun n => noL) (D98_ok hX) (fun n => noL_ok) (fun n v K => by kernel_rfl)
theorem laws_markBindingS_ok : ∀ n v K, laws_markBindingS.u n v K → callM C X0 n 21 (fillA laws_markBindingS.a v) K :=
 call_tell hX (fn := Tryz.f21) (c := bodyOf Tryz.f21) (by kernel_rfl) (by kernel_rfl) (A := laws_markBindingS.a) (u := laws_markBindingS.u) (fun _ _ h => h) (call := D98) (lp := fun n => orL 2 laws_markBindingS.l2.s (laws_markBindingS.l2.u n) noL) (D98_ok hX) (fun n => (orL_ok (laws_markBindingS.l2_ok hX n) noL_ok)) (fun n v K => by kernel_rfl)
def D99 (n : Nat) : CallF := orC 21 laws_markBindingS.a (laws_markBindingS.u n) (D98 n)
theorem D99_ok : ∀ n g a K, D99 n g a K → callM C X0 n g a K := fun n => orC_ok (laws_markBindingS_ok hX n) (D98_ok hX n)
abbrev laws_markUint64S_2.a : List TS := [.c (.o (.row 150 (.int .u64) 98)), .c (.o (.int .i64))]
def laws_markUint64S_2.u (n : Nat) (v : VA laws_markUint64S_2.a) (K : RES → Prop) : Prop := laws_markUint64S_2.c n v.1 v.2.1 (fun r0 r1 => K ⟨.c (.int .i64 r0), [[.row ⟨150, .int .u64, r1, 98, none⟩]]⟩)
abbrev laws_markUint64S_2.l2.s : ST := ⟨[(0, .c (.o (.own 0))), (1, .c (.o (.int .i64))), (5, .c (.o (.int .i64)))], [⟨0, 150, .int .u64, 98⟩], [], [0], []⟩
def laws_markUint64S_2.l2.u (n : Nat) (v : laws_markUint64S_2.l2.s.V) (K : X → St → Prop) : Prop := laws_markUint64S_2.l2 n v.1.2.1 v.1.2.2.1 v.2.1.1 (fun y0 y1 => K (.exit 0) ⟨[(1, .c (.int .i64 y0))], [(0, ⟨150, .int .u64, y1, 98, none⟩)], [], [0], []⟩)
theorem laws_markUint64S_2.l2_ok : ∀ n v K, laws_markUint64S_2.l2.u n v K → loopM C X0 n 67 2 (laws_markUint64S_2.l2.s.fill v) K :=
 loop_tell hX (fn := Tryz.f67) (c := bodyOf Tryz.f67) (a := loopOf Tryz.f67 2) (li := liOf (C.fi 67).loops 2) (by kernel_rfl) (by kernel_rfl) (of_decide_eq_true rfl) (by kernel_rfl) (by kernel_rfl) (T := laws_markUint64S_2.l2.s) (u := laws_markUint64S_2.l2.u) (fun _ _ h => h) (call := D99) (lp := fun n => noL) (D99_ok hX) (fun n => noL_ok) (fun n v K => by kernel_rfl)
theorem laws_markUint64S_2_ok : ∀ n v K, laws_markUint64S_2.u n v K → callM C X0 n 67 (fillA laws_markUint64S_2.a v) K :=
 call_tell hX (fn := Tryz.f67) (c := bodyOf Tryz.f67) (by kernel_rfl) (by kernel_rfl) (A := laws_markUint64S_2.a) (u := laws_markUint64S_2.u) (fun _ _ h => h) (call := D99) (lp := fun n => orL 2 laws_markUint64S_2.l2.s (laws_markUint64S_2.l2.u n) noL) (D99_ok hX) (fun n => (orL_ok (laws_markUint64S_2.l2_ok hX n) noL_ok)) (fun n v K => by kernel_rfl)
def D100 (n : Nat) : CallF := orC 67 laws_markUint64S_2.a (laws_markUint64S_2.u n) (D99 n)
theorem D100_ok : ∀ n g a K, D100 n g a K → callM C X0 n g a K := fun n => orC_ok (laws_markUint64S_2_ok hX n) (D99_ok hX n)
abbrev laws_markBitsS.a : List TS := [.c (.o (.row 92 (.prod (.int .i64) (.sl 150 (.int .u64))) 99)), .c (.o (.int .i64))]
def laws_markBitsS.u (n : Nat) (v : VA laws_markBitsS.a) (K : RES → Prop) : Prop := laws_markBitsS.c n v.1 v.2.1 (fun r0 r1 => K ⟨.c (.int .i64 r0), [[.row ⟨92, .prod (.int .i64) (.sl 150 (.int .u64)), r1, 99, none⟩]]⟩)
abbrev laws_markBitsS.l2.s : ST := ⟨[(0, .c (.o (.own 0))), (1, .c (.o (.int .i64))), (5, .c (.o (.int .i64)))], [⟨0, 92, .prod (.int .i64) (.sl 150 (.int .u64)), 99⟩], [], [0], []⟩
def laws_markBitsS.l2.u (n : Nat) (v : laws_markBitsS.l2.s.V) (K : X → St → Prop) : Prop := laws_markBitsS.l2 n v.1.2.1 v.1.2.2.1 v.2.1.1 (fun y0 y1 => K (.exit 0) ⟨[(1, .c (.int .i64 y0))], [(0, ⟨92, .prod (.int .i64) (.sl 150 (.int .u64)), y1, 99, none⟩)], [], [0], []⟩)
theorem laws_markBitsS.l2_ok : ∀ n v K, laws_markBitsS.l2.u n v K → loopM C X0 n 22 2 (laws_markBitsS.l2.s.fill v) K :=
 loop_tell hX (fn := Tryz.f22) (c := bodyOf Tryz.f22) (a := loopOf Tryz.f22 2) (li := liOf (C.fi 22).loops 2) (by kernel_rfl) (by kernel_rfl) (of_decide_eq_true rfl) (by kernel_rfl) (by kernel_rfl) (T := laws_markBitsS.l2.s) (u := laws_markBitsS.l2.u) (fun _ _ h => h) (call := D100) (lp := fun n => noL) (D100_ok hX) (fun n => noL_ok) (fun n v K => by kernel_rfl)
theorem laws_markBitsS_ok : ∀ n v K, laws_markBitsS.u n v K → callM C X0 n 22 (fillA laws_markBitsS.a v) K :=
 call_tell hX (fn := Tryz.f22) (c := bodyOf Tryz.f22) (by kernel_rfl) (by kernel_rfl) (A := laws_markBitsS.a) (u := laws_markBitsS.u) (fun _ _ h => h) (call := D100) (lp := fun n => orL 2 laws_markBitsS.l2.s (laws_markBitsS.l2.u n) noL) (D100_ok hX) (fun n => (orL_ok (laws_markBitsS.l2_ok hX n) noL_ok)) (fun n v K => by kernel_rfl)
def D101 (n : Nat) : CallF := orC 22 laws_markBitsS.a (laws_markBitsS.u n) (D100 n)
theorem D101_ok : ∀ n g a K, D101 n g a K → callM C X0 n g a K := fun n => orC_ok (laws_markBitsS_ok hX n) (D100_ok hX n)
abbrev laws_heldBitsS.a : List TS := [.c (.o (.dat 92 (.prod (.int .i64) (.sl 150 (.int .u64))))), .c (.o (.int .i64))]
def laws_heldBitsS.u (n : Nat) (v : VA laws_heldBitsS.a) (K : RES → Prop) : Prop := laws_heldBitsS.c n v.1 v.2.1 (fun r0 => K ⟨.c (.int .i64 r0), []⟩)
abbrev laws_heldBitsS.l2.s : ST := ⟨[(0, .c (.o (.dat 92 (.prod (.int .i64) (.sl 150 (.int .u64)))))), (1, .c (.o (.int .i64))), (5, .c (.o (.int .i64)))], [], [], [], []⟩
def laws_heldBitsS.l2.u (n : Nat) (v : laws_heldBitsS.l2.s.V) (K : X → St → Prop) : Prop := laws_heldBitsS.l2 n v.1.1 v.1.2.1 v.1.2.2.1 (fun y0 => K (.exit 0) ⟨[(1, .c (.int .i64 y0))], [], [], [], []⟩) (fun y0 => K .ret ⟨[(4, .c (.int .i64 y0))], [], [], [], []⟩)
theorem laws_heldBitsS.l2_ok : ∀ n v K, laws_heldBitsS.l2.u n v K → loopM C X0 n 23 2 (laws_heldBitsS.l2.s.fill v) K :=
 loop_tell hX (fn := Tryz.f23) (c := bodyOf Tryz.f23) (a := loopOf Tryz.f23 2) (li := liOf (C.fi 23).loops 2) (by kernel_rfl) (by kernel_rfl) (of_decide_eq_true rfl) (by kernel_rfl) (by kernel_rfl) (T := laws_heldBitsS.l2.s) (u := laws_heldBitsS.l2.u) (fun _ _ h => h) (call := D101) (lp := fun n => noL) (D101_ok hX) (fun n => noL_ok) (fun n v K => by kernel_rfl)
theorem laws_heldBitsS_ok : ∀ n v K, laws_heldBitsS.u n v K → callM C X0 n 23 (fillA laws_heldBitsS.a v) K :=
 call_tell hX (fn := Tryz.f23) (c := bodyOf Tryz.f23) (by kernel_rfl) (by kernel_rfl) (A := laws_heldBitsS.a) (u := laws_heldBitsS.u) (fun _ _ h => h) (call := D101) (lp := fun n => orL 2 laws_heldBitsS.l2.s (laws_heldBitsS.l2.u n) noL) (D101_ok hX) (fun n => (orL_ok (laws_heldBitsS.l2_ok hX n) noL_ok)) (fun n v K => by kernel_rfl)
def D102 (n : Nat) : CallF := orC 23 laws_heldBitsS.a (laws_heldBitsS.u n) (D101 n)
theorem D102_ok : ∀ n g a K, D102 n g a K → callM C X0 n g a K := fun n => orC_ok (laws_heldBitsS_ok hX n) (D101_ok hX n)
abbrev laws_FnExactBind.a : List TS := [.c (.o (.dat 74 (.prod .str (.int .i64)))), .c (.o (.dat 80 (.prod (.int .i64) (.sl 192 (.prod (.int .i64) (.prod (.int .i64) (.prod (.int .i64) (.prod (.int .i64) (.prod (.int .i64) (.prod (.sl 150 (.int .u64)) (.sl 2 (.int .i64)))))))))))), .c (.o (.dat 84 (.prod (.int .i64) (.sl 150 (.int .u64)))))]
def laws_FnExactBind.u (n : Nat) (v : VA laws_FnExactBind.a) (K : RES → Prop) : Prop := laws_FnExactBind.c n v.1 v.2.1 v.2.2.1 (fun r0 => K ⟨.c (.bool r0), []⟩)
abbrev laws_FnExactBind.q29.s : ST := ⟨[(0, .c (.o (.dat 74 (.prod .str (.int .i64))))), (1, .c (.o (.dat 80 (.prod (.int .i64) (.sl 192 (.prod (.int .i64) (.prod (.int .i64) (.prod (.int .i64) (.prod (.int .i64) (.prod (.int .i64) (.prod (.sl 150 (.int .u64)) (.sl 2 (.int .i64))))))))))))), (2, .c (.o (.dat 84 (.prod (.int .i64) (.sl 150 (.int .u64)))))), (8, .c (.o (.own 1344))), (9, .c (.o .bool)), (13, .c (.o (.own 1760))), (103, .c (.o .bool))], [⟨1344, 92, .prod (.int .i64) (.sl 150 (.int .u64)), 99⟩, ⟨1760, 92, .prod (.int .i64) (.sl 150 (.int .u64)), 99⟩], [], [], []⟩
def laws_FnExactBind.q29.u (n : Nat) (v : laws_FnExactBind.q29.s.V) (K : X → St → Prop) : Prop := laws_FnExactBind.q29 n v.1.1 v.1.2.1 v.1.2.2.1 v.1.2.2.2.2.1 v.1.2.2.2.2.2.2.1 v.2.1.1 v.2.1.2.1 (fun y0 => K .ret ⟨[(6, .c (.bool y0))], [], [], [], []⟩) (fun y0 y1 y2 y3 y4 y5 => K .normal ⟨[(0, .c (.dat 74 (.prod .str (.int .i64)) y0)), (1, .c (.dat 80 (.prod (.int .i64) (.sl 192 (.prod (.int .i64) (.prod (.int .i64) (.prod (.int .i64) (.prod (.int .i64) (.prod (.int .i64) (.prod (.sl 150 (.int .u64)) (.sl 2 (.int .i64)))))))))) y1)), (2, .c (.dat 84 (.prod (.int .i64) (.sl 150 (.int .u64))) y2)), (8, .c (.own 1344)), (9, .c (.bool y3)), (13, .c (.own 1760))], [(1344, ⟨92, .prod (.int .i64) (.sl 150 (.int .u64)), y4, 99, none⟩), (1760, ⟨92, .prod (.int .i64) (.sl 150 (.int .u64)), y5, 99, none⟩)], [], [], []⟩)
abbrev laws_FnExactBind.q18.s : ST := ⟨[(0, .c (.o (.dat 74 (.prod .str (.int .i64))))), (1, .c (.o (.dat 80 (.prod (.int .i64) (.sl 192 (.prod (.int .i64) (.prod (.int .i64) (.prod (.int .i64) (.prod (.int .i64) (.prod (.int .i64) (.prod (.sl 150 (.int .u64)) (.sl 2 (.int .i64))))))))))))), (2, .c (.o (.dat 84 (.prod (.int .i64) (.sl 150 (.int .u64)))))), (8, .c (.o (.own 1344))), (9, .c (.o .bool)), (10, .c (.o (.own 1472))), (11, .c (.o (.own 1536))), (12, .c (.o (.own 1600))), (13, .c (.o (.own 1760))), (14, .c (.o .bool))], [⟨1344, 92, .prod (.int .i64) (.sl 150 (.int .u64)), 99⟩, ⟨1472, 95, .prod .str (.int .i64), 99⟩, ⟨1536, 91, .prod (.int .i64) (.sl 145 (.prod (.int .i64) (.prod (.int .i64) (.prod (.int .i64) (.prod (.int .i64) (.prod (.int .i64) (.prod (.sl 150 (.int .u64)) (.sl 2 (.int .i64))))))))), 99⟩, ⟨1600, 92, .prod (.int .i64) (.sl 150 (.int .u64)), 99⟩, ⟨1760, 92, .prod (.int .i64) (.sl 150 (.int .u64)), 99⟩], [], [], []⟩
def laws_FnExactBind.q18.u (n : Nat) (v : laws_FnExactBind.q18.s.V) (K : X → St → Prop) : Prop := laws_FnExactBind.q18 n v.1.1 v.1.2.1 v.1.2.2.1 v.1.2.2.2.2.1 v.1.2.2.2.2.2.2.2.2.2.1 v.2.1.1 v.2.1.2.1 v.2.1.2.2.1 v.2.1.2.2.2.1 v.2.1.2.2.2.2.1 (fun y0 => K .ret ⟨[(6, .c (.bool y0))], [], [], [], []⟩)
theorem laws_FnExactBind.q29_ok : ∀ n v K, laws_FnExactBind.q29.u n v K → loopM C X0 n 3 1000029 (laws_FnExactBind.q29.s.fill v) K :=
 cut_tell hX (fn := Tryz.f3) (c := bodyOf Tryz.f3) (a := cutOf Tryz.f3 29) (li := liOf (C.fi 3).loops 1000029) (by kernel_rfl) (by kernel_rfl) (of_decide_eq_true rfl) (by kernel_rfl) (by kernel_rfl) (T := laws_FnExactBind.q29.s) (u := laws_FnExactBind.q29.u) (fun _ _ h => h) (call := D102) (lp := fun n => noL) (D102_ok hX) (fun n => noL_ok) (fun n v K => by kernel_rfl)
theorem laws_FnExactBind.q18_ok : ∀ n v K, laws_FnExactBind.q18.u n v K → loopM C X0 n 3 1000018 (laws_FnExactBind.q18.s.fill v) K :=
 cut_tell hX (fn := Tryz.f3) (c := bodyOf Tryz.f3) (a := cutOf Tryz.f3 18) (li := liOf (C.fi 3).loops 1000018) (by kernel_rfl) (by kernel_rfl) (of_decide_eq_true rfl) (by kernel_rfl) (by kernel_rfl) (T := laws_FnExactBind.q18.s) (u := laws_FnExactBind.q18.u) (fun _ _ h => h) (call := D102) (lp := fun n => orL 1000029 laws_FnExactBind.q29.s (laws_FnExactBind.q29.u n) noL) (D102_ok hX) (fun n => (orL_ok (laws_FnExactBind.q29_ok hX n) noL_ok)) (fun n v K => by kernel_rfl)
theorem laws_FnExactBind_ok : ∀ n v K, laws_FnExactBind.u n v K → callM C X0 n 3 (fillA laws_FnExactBind.a v) K :=
 call_tell hX (fn := Tryz.f3) (c := bodyOf Tryz.f3) (by kernel_rfl) (by kernel_rfl) (A := laws_FnExactBind.a) (u := laws_FnExactBind.u) (fun _ _ h => h) (call := D102) (lp := fun n => orL 1000018 laws_FnExactBind.q18.s (laws_FnExactBind.q18.u n) noL) (D102_ok hX) (fun n => (orL_ok (laws_FnExactBind.q18_ok hX n) noL_ok)) (fun n v K => by kernel_rfl)
def D103 (n : Nat) : CallF := orC 3 laws_FnExactBind.a (laws_FnExactBind.u n) (D102 n)
theorem D103_ok : ∀ n g a K, D103 n g a K → callM C X0 n g a K := fun n => orC_ok (laws_FnExactBind_ok hX n) (D102_ok hX n)
end
end Go.Vsi
end
