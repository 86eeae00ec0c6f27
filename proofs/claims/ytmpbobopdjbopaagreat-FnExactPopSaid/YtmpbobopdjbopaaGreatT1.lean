/- Each told function is what the machine comes to. No statement is proved here. -/
import Derived.Test.YtmpbobopdjbopaaGreatM3
import Derived.Test.YtmpbobopdjbopaaGreatA1
import Derived.Test.YtmpbobopdjbopaaGreatProg
import Derived.KernelRfl

section
set_option linter.unusedVariables false
namespace Go.Vsi
open Go.Proofs
def tis : List (Nat × TI) := [
(1, ⟨false, 1, 8, [.undef], none, none, []⟩),
(2, ⟨false, 1, 8, [.int .i64 0], some (.int .i64), none, []⟩),
(3, ⟨false, 1, 8, [.int .i64 0], some (.int .i64), none, []⟩),
(4, ⟨false, 1, 1, [.bool false], some (.bool), none, []⟩),
(5, ⟨false, 1, 1, [.int .u8 0], some (.int .u8), none, []⟩),
(6, ⟨false, 1, 1, [.int .u8 0], some (.int .u8), none, []⟩),
(7, ⟨true, 4, 24, [.int .i64 0, .int .i64 0, .bool false, .int .u8 0], some (.prod (.int .i64) (.prod (.int .i64) (.prod .bool (.int .u8)))), none, [(0, 2), (1, 3), (2, 4), (3, 6)]⟩),
(8, ⟨true, 4, 24, [.int .i64 0, .int .i64 0, .bool false, .int .u8 0], some (.prod (.int .i64) (.prod (.int .i64) (.prod .bool (.int .u8)))), none, [(0, 2), (1, 3), (2, 4), (3, 6)]⟩),
(9, ⟨false, 1, 16, [.str []], some (.str), none, []⟩),
(10, ⟨false, 1, 16, [.str []], some (.str), none, []⟩),
(11, ⟨false, 1, 16, [.str []], some (.str), none, []⟩),
(12, ⟨false, 1, 8, [.int .u64 0], some (.int .u64), none, []⟩),
(13, ⟨true, 2, 24, [.str [], .int .u64 0], some (.prod .str (.int .u64)), none, [(0, 9), (1, 12)]⟩),
(14, ⟨true, 2, 24, [.str [], .int .u64 0], some (.prod .str (.int .u64)), none, [(0, 9), (1, 12)]⟩),
(15, ⟨false, 1, 8, [.undef], none, none, []⟩),
(16, ⟨false, 1, 8, [.undef], none, none, []⟩),
(17, ⟨false, 1, 8, [.undef], none, none, []⟩),
(18, ⟨true, 1, 8, [.undef], none, none, [(0, 17)]⟩),
(19, ⟨true, 1, 8, [.undef], none, none, [(0, 17)]⟩),
(20, ⟨false, 1, 16, [.undef], none, none, []⟩),
(21, ⟨false, 1, 4, [.int .i32 0], some (.int .i32), none, []⟩),
(22, ⟨false, 1, 24, [.emp 74 (.prod .str (.int .i64))], some (.sl 74 (.prod .str (.int .i64))), some 74, []⟩),
(23, ⟨false, 1, 24, [.emp 80 (.prod (.int .i64) (.sl 192 (.prod (.int .i64) (.prod (.int .i64) (.prod (.int .i64) (.prod (.int .i64) (.prod (.int .i64) (.prod (.sl 150 (.int .u64)) (.sl 2 (.int .i64))))))))))], some (.sl 80 (.prod (.int .i64) (.sl 192 (.prod (.int .i64) (.prod (.int .i64) (.prod (.int .i64) (.prod (.int .i64) (.prod (.int .i64) (.prod (.sl 150 (.int .u64)) (.sl 2 (.int .i64))))))))))), some 80, []⟩),
(24, ⟨false, 1, 24, [.emp 84 (.prod (.int .i64) (.sl 150 (.int .u64)))], some (.sl 84 (.prod (.int .i64) (.sl 150 (.int .u64)))), some 84, []⟩),
(25, ⟨false, 1, 8, [.undef], none, none, []⟩),
(26, ⟨false, 1, 8, [.undef], none, none, []⟩),
(27, ⟨false, 1, 8, [.undef], none, none, []⟩),
(28, ⟨false, 1, 24, [.emp 92 (.prod (.int .i64) (.sl 150 (.int .u64)))], some (.sl 92 (.prod (.int .i64) (.sl 150 (.int .u64)))), some 92, []⟩),
(30, ⟨false, 1, 8, [.undef], none, none, []⟩),
(31, ⟨false, 1, 24, [.emp 95 (.prod .str (.int .i64))], some (.sl 95 (.prod .str (.int .i64))), some 95, []⟩),
(32, ⟨false, 1, 8, [.undef], none, none, []⟩),
(33, ⟨false, 1, 24, [.emp 91 (.prod (.int .i64) (.sl 145 (.prod (.int .i64) (.prod (.int .i64) (.prod (.int .i64) (.prod (.int .i64) (.prod (.int .i64) (.prod (.sl 150 (.int .u64)) (.sl 2 (.int .i64))))))))))], some (.sl 91 (.prod (.int .i64) (.sl 145 (.prod (.int .i64) (.prod (.int .i64) (.prod (.int .i64) (.prod (.int .i64) (.prod (.int .i64) (.prod (.sl 150 (.int .u64)) (.sl 2 (.int .i64))))))))))), some 91, []⟩),
(34, ⟨false, 1, 8, [.undef], none, none, []⟩),
(35, ⟨false, 1, 8, [.undef], none, none, []⟩),
(36, ⟨false, 1, 8, [.undef], none, none, []⟩),
(37, ⟨false, 1, 8, [.undef], none, none, []⟩),
(38, ⟨false, 1, 8, [.undef], none, none, []⟩),
(39, ⟨false, 1, 8, [.undef], none, none, []⟩),
(40, ⟨false, 1, 8, [.undef], none, none, []⟩),
(41, ⟨false, 1, 8, [.undef], none, none, []⟩),
(42, ⟨false, 1, 8, [.undef], none, none, []⟩),
(43, ⟨false, 1, 24, [.emp 109 (.prod (.int .i64) (.prod .bool (.prod (.sl 192 (.prod (.int .i64) (.prod (.int .i64) (.prod (.int .i64) (.prod (.int .i64) (.prod (.int .i64) (.prod (.sl 150 (.int .u64)) (.sl 2 (.int .i64))))))))) (.sl 192 (.prod (.int .i64) (.prod (.int .i64) (.prod (.int .i64) (.prod (.int .i64) (.prod (.int .i64) (.prod (.sl 150 (.int .u64)) (.sl 2 (.int .i64))))))))))))], some (.sl 109 (.prod (.int .i64) (.prod .bool (.prod (.sl 192 (.prod (.int .i64) (.prod (.int .i64) (.prod (.int .i64) (.prod (.int .i64) (.prod (.int .i64) (.prod (.sl 150 (.int .u64)) (.sl 2 (.int .i64))))))))) (.sl 192 (.prod (.int .i64) (.prod (.int .i64) (.prod (.int .i64) (.prod (.int .i64) (.prod (.int .i64) (.prod (.sl 150 (.int .u64)) (.sl 2 (.int .i64))))))))))))), some 109, []⟩),
(44, ⟨false, 1, 8, [.undef], none, none, []⟩),
(45, ⟨false, 1, 24, [.emp 2 (.int .i64)], some (.sl 2 (.int .i64)), some 2, []⟩),
(47, ⟨false, 1, 8, [.undef], none, none, []⟩),
(48, ⟨false, 1, 24, [.emp 114 (.prod (.int .i64) (.prod .bool (.prod (.sl 145 (.prod (.int .i64) (.prod (.int .i64) (.prod (.int .i64) (.prod (.int .i64) (.prod (.int .i64) (.prod (.sl 150 (.int .u64)) (.sl 2 (.int .i64))))))))) (.sl 145 (.prod (.int .i64) (.prod (.int .i64) (.prod (.int .i64) (.prod (.int .i64) (.prod (.int .i64) (.prod (.sl 150 (.int .u64)) (.sl 2 (.int .i64))))))))))))], some (.sl 114 (.prod (.int .i64) (.prod .bool (.prod (.sl 145 (.prod (.int .i64) (.prod (.int .i64) (.prod (.int .i64) (.prod (.int .i64) (.prod (.int .i64) (.prod (.sl 150 (.int .u64)) (.sl 2 (.int .i64))))))))) (.sl 145 (.prod (.int .i64) (.prod (.int .i64) (.prod (.int .i64) (.prod (.int .i64) (.prod (.int .i64) (.prod (.sl 150 (.int .u64)) (.sl 2 (.int .i64))))))))))))), some 114, []⟩),
(49, ⟨false, 1, 8, [.undef], none, none, []⟩),
(50, ⟨false, 1, 8, [.undef], none, none, []⟩),
(51, ⟨false, 1, 8, [.undef], none, none, []⟩),
(52, ⟨false, 1, 8, [.undef], none, none, []⟩),
(53, ⟨false, 1, 8, [.undef], none, none, []⟩),
(54, ⟨false, 1, 8, [.undef], none, none, []⟩),
(55, ⟨false, 1, 24, [.emp 160 (.prod (.int .i64) (.sl 109 (.prod (.int .i64) (.prod .bool (.prod (.sl 192 (.prod (.int .i64) (.prod (.int .i64) (.prod (.int .i64) (.prod (.int .i64) (.prod (.int .i64) (.prod (.sl 150 (.int .u64)) (.sl 2 (.int .i64))))))))) (.sl 192 (.prod (.int .i64) (.prod (.int .i64) (.prod (.int .i64) (.prod (.int .i64) (.prod (.int .i64) (.prod (.sl 150 (.int .u64)) (.sl 2 (.int .i64))))))))))))))], some (.sl 160 (.prod (.int .i64) (.sl 109 (.prod (.int .i64) (.prod .bool (.prod (.sl 192 (.prod (.int .i64) (.prod (.int .i64) (.prod (.int .i64) (.prod (.int .i64) (.prod (.int .i64) (.prod (.sl 150 (.int .u64)) (.sl 2 (.int .i64))))))))) (.sl 192 (.prod (.int .i64) (.prod (.int .i64) (.prod (.int .i64) (.prod (.int .i64) (.prod (.int .i64) (.prod (.sl 150 (.int .u64)) (.sl 2 (.int .i64))))))))))))))), some 160, []⟩),
(56, ⟨true, 3, 56, [.emp 74 (.prod .str (.int .i64)), .emp 160 (.prod (.int .i64) (.sl 109 (.prod (.int .i64) (.prod .bool (.prod (.sl 192 (.prod (.int .i64) (.prod (.int .i64) (.prod (.int .i64) (.prod (.int .i64) (.prod (.int .i64) (.prod (.sl 150 (.int .u64)) (.sl 2 (.int .i64))))))))) (.sl 192 (.prod (.int .i64) (.prod (.int .i64) (.prod (.int .i64) (.prod (.int .i64) (.prod (.int .i64) (.prod (.sl 150 (.int .u64)) (.sl 2 (.int .i64)))))))))))))), .int .i64 0], some (.prod (.sl 74 (.prod .str (.int .i64))) (.prod (.sl 160 (.prod (.int .i64) (.sl 109 (.prod (.int .i64) (.prod .bool (.prod (.sl 192 (.prod (.int .i64) (.prod (.int .i64) (.prod (.int .i64) (.prod (.int .i64) (.prod (.int .i64) (.prod (.sl 150 (.int .u64)) (.sl 2 (.int .i64))))))))) (.sl 192 (.prod (.int .i64) (.prod (.int .i64) (.prod (.int .i64) (.prod (.int .i64) (.prod (.int .i64) (.prod (.sl 150 (.int .u64)) (.sl 2 (.int .i64))))))))))))))) (.int .i64))), none, [(0, 22), (1, 55), (2, 2)]⟩),
(57, ⟨true, 3, 56, [.emp 74 (.prod .str (.int .i64)), .emp 160 (.prod (.int .i64) (.sl 109 (.prod (.int .i64) (.prod .bool (.prod (.sl 192 (.prod (.int .i64) (.prod (.int .i64) (.prod (.int .i64) (.prod (.int .i64) (.prod (.int .i64) (.prod (.sl 150 (.int .u64)) (.sl 2 (.int .i64))))))))) (.sl 192 (.prod (.int .i64) (.prod (.int .i64) (.prod (.int .i64) (.prod (.int .i64) (.prod (.int .i64) (.prod (.sl 150 (.int .u64)) (.sl 2 (.int .i64)))))))))))))), .int .i64 0], some (.prod (.sl 74 (.prod .str (.int .i64))) (.prod (.sl 160 (.prod (.int .i64) (.sl 109 (.prod (.int .i64) (.prod .bool (.prod (.sl 192 (.prod (.int .i64) (.prod (.int .i64) (.prod (.int .i64) (.prod (.int .i64) (.prod (.int .i64) (.prod (.sl 150 (.int .u64)) (.sl 2 (.int .i64))))))))) (.sl 192 (.prod (.int .i64) (.prod (.int .i64) (.prod (.int .i64) (.prod (.int .i64) (.prod (.int .i64) (.prod (.sl 150 (.int .u64)) (.sl 2 (.int .i64))))))))))))))) (.int .i64))), none, [(0, 22), (1, 55), (2, 2)]⟩),
(58, ⟨false, 1, 8, [.undef], none, none, []⟩),
(59, ⟨false, 1, 24, [.emp 126 (.prod (.int .i64) (.sl 114 (.prod (.int .i64) (.prod .bool (.prod (.sl 145 (.prod (.int .i64) (.prod (.int .i64) (.prod (.int .i64) (.prod (.int .i64) (.prod (.int .i64) (.prod (.sl 150 (.int .u64)) (.sl 2 (.int .i64))))))))) (.sl 145 (.prod (.int .i64) (.prod (.int .i64) (.prod (.int .i64) (.prod (.int .i64) (.prod (.int .i64) (.prod (.sl 150 (.int .u64)) (.sl 2 (.int .i64))))))))))))))], some (.sl 126 (.prod (.int .i64) (.sl 114 (.prod (.int .i64) (.prod .bool (.prod (.sl 145 (.prod (.int .i64) (.prod (.int .i64) (.prod (.int .i64) (.prod (.int .i64) (.prod (.int .i64) (.prod (.sl 150 (.int .u64)) (.sl 2 (.int .i64))))))))) (.sl 145 (.prod (.int .i64) (.prod (.int .i64) (.prod (.int .i64) (.prod (.int .i64) (.prod (.int .i64) (.prod (.sl 150 (.int .u64)) (.sl 2 (.int .i64))))))))))))))), some 126, []⟩),
(60, ⟨true, 3, 56, [.emp 95 (.prod .str (.int .i64)), .emp 126 (.prod (.int .i64) (.sl 114 (.prod (.int .i64) (.prod .bool (.prod (.sl 145 (.prod (.int .i64) (.prod (.int .i64) (.prod (.int .i64) (.prod (.int .i64) (.prod (.int .i64) (.prod (.sl 150 (.int .u64)) (.sl 2 (.int .i64))))))))) (.sl 145 (.prod (.int .i64) (.prod (.int .i64) (.prod (.int .i64) (.prod (.int .i64) (.prod (.int .i64) (.prod (.sl 150 (.int .u64)) (.sl 2 (.int .i64)))))))))))))), .int .i64 0], some (.prod (.sl 95 (.prod .str (.int .i64))) (.prod (.sl 126 (.prod (.int .i64) (.sl 114 (.prod (.int .i64) (.prod .bool (.prod (.sl 145 (.prod (.int .i64) (.prod (.int .i64) (.prod (.int .i64) (.prod (.int .i64) (.prod (.int .i64) (.prod (.sl 150 (.int .u64)) (.sl 2 (.int .i64))))))))) (.sl 145 (.prod (.int .i64) (.prod (.int .i64) (.prod (.int .i64) (.prod (.int .i64) (.prod (.int .i64) (.prod (.sl 150 (.int .u64)) (.sl 2 (.int .i64))))))))))))))) (.int .i64))), none, [(0, 31), (1, 59), (2, 2)]⟩),
(61, ⟨true, 3, 56, [.emp 95 (.prod .str (.int .i64)), .emp 126 (.prod (.int .i64) (.sl 114 (.prod (.int .i64) (.prod .bool (.prod (.sl 145 (.prod (.int .i64) (.prod (.int .i64) (.prod (.int .i64) (.prod (.int .i64) (.prod (.int .i64) (.prod (.sl 150 (.int .u64)) (.sl 2 (.int .i64))))))))) (.sl 145 (.prod (.int .i64) (.prod (.int .i64) (.prod (.int .i64) (.prod (.int .i64) (.prod (.int .i64) (.prod (.sl 150 (.int .u64)) (.sl 2 (.int .i64)))))))))))))), .int .i64 0], some (.prod (.sl 95 (.prod .str (.int .i64))) (.prod (.sl 126 (.prod (.int .i64) (.sl 114 (.prod (.int .i64) (.prod .bool (.prod (.sl 145 (.prod (.int .i64) (.prod (.int .i64) (.prod (.int .i64) (.prod (.int .i64) (.prod (.int .i64) (.prod (.sl 150 (.int .u64)) (.sl 2 (.int .i64))))))))) (.sl 145 (.prod (.int .i64) (.prod (.int .i64) (.prod (.int .i64) (.prod (.int .i64) (.prod (.int .i64) (.prod (.sl 150 (.int .u64)) (.sl 2 (.int .i64))))))))))))))) (.int .i64))), none, [(0, 31), (1, 59), (2, 2)]⟩),
(63, ⟨false, 1, 8, [.undef], none, none, []⟩),
(64, ⟨false, 1, 8, [.undef], none, none, []⟩),
(65, ⟨false, 1, 8, [.undef], none, none, []⟩),
(66, ⟨false, 1, 8, [.undef], none, none, []⟩),
(67, ⟨false, 1, 8, [.undef], none, none, []⟩),
(68, ⟨false, 1, 8, [.undef], none, none, []⟩),
(69, ⟨false, 1, 8, [.undef], none, none, []⟩),
(70, ⟨false, 1, 8, [.undef], none, none, []⟩),
(71, ⟨false, 1, 8, [.undef], none, none, []⟩),
(72, ⟨false, 1, 8, [.undef], none, none, []⟩),
(73, ⟨true, 2, 24, [.str [], .int .i64 0], some (.prod .str (.int .i64)), none, [(0, 9), (1, 2)]⟩),
(74, ⟨true, 2, 24, [.str [], .int .i64 0], some (.prod .str (.int .i64)), none, [(0, 9), (1, 2)]⟩),
(75, ⟨false, 1, 8, [.undef], none, none, []⟩),
(76, ⟨false, 1, 24, [.emp 192 (.prod (.int .i64) (.prod (.int .i64) (.prod (.int .i64) (.prod (.int .i64) (.prod (.int .i64) (.prod (.sl 150 (.int .u64)) (.sl 2 (.int .i64))))))))], some (.sl 192 (.prod (.int .i64) (.prod (.int .i64) (.prod (.int .i64) (.prod (.int .i64) (.prod (.int .i64) (.prod (.sl 150 (.int .u64)) (.sl 2 (.int .i64))))))))), some 192, []⟩),
(77, ⟨true, 1, 24, [.emp 192 (.prod (.int .i64) (.prod (.int .i64) (.prod (.int .i64) (.prod (.int .i64) (.prod (.int .i64) (.prod (.sl 150 (.int .u64)) (.sl 2 (.int .i64))))))))], some (.sl 192 (.prod (.int .i64) (.prod (.int .i64) (.prod (.int .i64) (.prod (.int .i64) (.prod (.int .i64) (.prod (.sl 150 (.int .u64)) (.sl 2 (.int .i64))))))))), none, [(0, 76)]⟩),
(78, ⟨true, 1, 24, [.emp 192 (.prod (.int .i64) (.prod (.int .i64) (.prod (.int .i64) (.prod (.int .i64) (.prod (.int .i64) (.prod (.sl 150 (.int .u64)) (.sl 2 (.int .i64))))))))], some (.sl 192 (.prod (.int .i64) (.prod (.int .i64) (.prod (.int .i64) (.prod (.int .i64) (.prod (.int .i64) (.prod (.sl 150 (.int .u64)) (.sl 2 (.int .i64))))))))), none, [(0, 76)]⟩),
(79, ⟨true, 2, 32, [.int .i64 0, .emp 192 (.prod (.int .i64) (.prod (.int .i64) (.prod (.int .i64) (.prod (.int .i64) (.prod (.int .i64) (.prod (.sl 150 (.int .u64)) (.sl 2 (.int .i64))))))))], some (.prod (.int .i64) (.sl 192 (.prod (.int .i64) (.prod (.int .i64) (.prod (.int .i64) (.prod (.int .i64) (.prod (.int .i64) (.prod (.sl 150 (.int .u64)) (.sl 2 (.int .i64)))))))))), none, [(0, 2), (1, 78)]⟩),
(80, ⟨true, 2, 32, [.int .i64 0, .emp 192 (.prod (.int .i64) (.prod (.int .i64) (.prod (.int .i64) (.prod (.int .i64) (.prod (.int .i64) (.prod (.sl 150 (.int .u64)) (.sl 2 (.int .i64))))))))], some (.prod (.int .i64) (.sl 192 (.prod (.int .i64) (.prod (.int .i64) (.prod (.int .i64) (.prod (.int .i64) (.prod (.int .i64) (.prod (.sl 150 (.int .u64)) (.sl 2 (.int .i64)))))))))), none, [(0, 2), (1, 78)]⟩),
(81, ⟨false, 1, 8, [.undef], none, none, []⟩),
(82, ⟨false, 1, 24, [.emp 150 (.int .u64)], some (.sl 150 (.int .u64)), some 150, []⟩),
(83, ⟨true, 2, 32, [.int .i64 0, .emp 150 (.int .u64)], some (.prod (.int .i64) (.sl 150 (.int .u64))), none, [(0, 2), (1, 82)]⟩),
(84, ⟨true, 2, 32, [.int .i64 0, .emp 150 (.int .u64)], some (.prod (.int .i64) (.sl 150 (.int .u64))), none, [(0, 2), (1, 82)]⟩),
(85, ⟨false, 1, 8, [.undef], none, none, []⟩),
(86, ⟨false, 1, 8, [.undef], none, none, []⟩),
(87, ⟨false, 1, 24, [.emp 145 (.prod (.int .i64) (.prod (.int .i64) (.prod (.int .i64) (.prod (.int .i64) (.prod (.int .i64) (.prod (.sl 150 (.int .u64)) (.sl 2 (.int .i64))))))))], some (.sl 145 (.prod (.int .i64) (.prod (.int .i64) (.prod (.int .i64) (.prod (.int .i64) (.prod (.int .i64) (.prod (.sl 150 (.int .u64)) (.sl 2 (.int .i64))))))))), some 145, []⟩),
(88, ⟨true, 1, 24, [.emp 145 (.prod (.int .i64) (.prod (.int .i64) (.prod (.int .i64) (.prod (.int .i64) (.prod (.int .i64) (.prod (.sl 150 (.int .u64)) (.sl 2 (.int .i64))))))))], some (.sl 145 (.prod (.int .i64) (.prod (.int .i64) (.prod (.int .i64) (.prod (.int .i64) (.prod (.int .i64) (.prod (.sl 150 (.int .u64)) (.sl 2 (.int .i64))))))))), none, [(0, 87)]⟩),
(89, ⟨true, 1, 24, [.emp 145 (.prod (.int .i64) (.prod (.int .i64) (.prod (.int .i64) (.prod (.int .i64) (.prod (.int .i64) (.prod (.sl 150 (.int .u64)) (.sl 2 (.int .i64))))))))], some (.sl 145 (.prod (.int .i64) (.prod (.int .i64) (.prod (.int .i64) (.prod (.int .i64) (.prod (.int .i64) (.prod (.sl 150 (.int .u64)) (.sl 2 (.int .i64))))))))), none, [(0, 87)]⟩),
(90, ⟨true, 2, 32, [.int .i64 0, .emp 145 (.prod (.int .i64) (.prod (.int .i64) (.prod (.int .i64) (.prod (.int .i64) (.prod (.int .i64) (.prod (.sl 150 (.int .u64)) (.sl 2 (.int .i64))))))))], some (.prod (.int .i64) (.sl 145 (.prod (.int .i64) (.prod (.int .i64) (.prod (.int .i64) (.prod (.int .i64) (.prod (.int .i64) (.prod (.sl 150 (.int .u64)) (.sl 2 (.int .i64)))))))))), none, [(0, 2), (1, 89)]⟩),
(91, ⟨true, 2, 32, [.int .i64 0, .emp 145 (.prod (.int .i64) (.prod (.int .i64) (.prod (.int .i64) (.prod (.int .i64) (.prod (.int .i64) (.prod (.sl 150 (.int .u64)) (.sl 2 (.int .i64))))))))], some (.prod (.int .i64) (.sl 145 (.prod (.int .i64) (.prod (.int .i64) (.prod (.int .i64) (.prod (.int .i64) (.prod (.int .i64) (.prod (.sl 150 (.int .u64)) (.sl 2 (.int .i64)))))))))), none, [(0, 2), (1, 89)]⟩),
(92, ⟨true, 2, 32, [.int .i64 0, .emp 150 (.int .u64)], some (.prod (.int .i64) (.sl 150 (.int .u64))), none, [(0, 2), (1, 82)]⟩),
(93, ⟨false, 1, 8, [.undef], none, none, []⟩),
(94, ⟨false, 1, 8, [.undef], none, none, []⟩),
(95, ⟨true, 2, 24, [.str [], .int .i64 0], some (.prod .str (.int .i64)), none, [(0, 9), (1, 2)]⟩),
(96, ⟨false, 1, 8, [.undef], none, none, []⟩),
(97, ⟨false, 1, 8, [.undef], none, none, []⟩),
(98, ⟨false, 1, 8, [.undef], none, none, []⟩),
(99, ⟨false, 1, 8, [.undef], none, none, []⟩),
(100, ⟨false, 1, 8, [.undef], none, none, []⟩),
(101, ⟨false, 1, 8, [.undef], none, none, []⟩),
(102, ⟨false, 1, 8, [.undef], none, none, []⟩),
(103, ⟨false, 1, 8, [.undef], none, none, []⟩),
(104, ⟨false, 1, 8, [.undef], none, none, []⟩),
(105, ⟨false, 1, 8, [.undef], none, none, []⟩),
(106, ⟨false, 1, 8, [.undef], none, none, []⟩),
(107, ⟨false, 1, 8, [.undef], none, none, []⟩),
(108, ⟨true, 4, 64, [.int .i64 0, .bool false, .emp 192 (.prod (.int .i64) (.prod (.int .i64) (.prod (.int .i64) (.prod (.int .i64) (.prod (.int .i64) (.prod (.sl 150 (.int .u64)) (.sl 2 (.int .i64)))))))), .emp 192 (.prod (.int .i64) (.prod (.int .i64) (.prod (.int .i64) (.prod (.int .i64) (.prod (.int .i64) (.prod (.sl 150 (.int .u64)) (.sl 2 (.int .i64))))))))], some (.prod (.int .i64) (.prod .bool (.prod (.sl 192 (.prod (.int .i64) (.prod (.int .i64) (.prod (.int .i64) (.prod (.int .i64) (.prod (.int .i64) (.prod (.sl 150 (.int .u64)) (.sl 2 (.int .i64))))))))) (.sl 192 (.prod (.int .i64) (.prod (.int .i64) (.prod (.int .i64) (.prod (.int .i64) (.prod (.int .i64) (.prod (.sl 150 (.int .u64)) (.sl 2 (.int .i64)))))))))))), none, [(0, 2), (1, 4), (2, 78), (3, 78)]⟩),
(109, ⟨true, 4, 64, [.int .i64 0, .bool false, .emp 192 (.prod (.int .i64) (.prod (.int .i64) (.prod (.int .i64) (.prod (.int .i64) (.prod (.int .i64) (.prod (.sl 150 (.int .u64)) (.sl 2 (.int .i64)))))))), .emp 192 (.prod (.int .i64) (.prod (.int .i64) (.prod (.int .i64) (.prod (.int .i64) (.prod (.int .i64) (.prod (.sl 150 (.int .u64)) (.sl 2 (.int .i64))))))))], some (.prod (.int .i64) (.prod .bool (.prod (.sl 192 (.prod (.int .i64) (.prod (.int .i64) (.prod (.int .i64) (.prod (.int .i64) (.prod (.int .i64) (.prod (.sl 150 (.int .u64)) (.sl 2 (.int .i64))))))))) (.sl 192 (.prod (.int .i64) (.prod (.int .i64) (.prod (.int .i64) (.prod (.int .i64) (.prod (.int .i64) (.prod (.sl 150 (.int .u64)) (.sl 2 (.int .i64)))))))))))), none, [(0, 2), (1, 4), (2, 78), (3, 78)]⟩),
(110, ⟨false, 1, 8, [.undef], none, none, []⟩),
(112, ⟨false, 1, 8, [.undef], none, none, []⟩),
(113, ⟨true, 4, 64, [.int .i64 0, .bool false, .emp 145 (.prod (.int .i64) (.prod (.int .i64) (.prod (.int .i64) (.prod (.int .i64) (.prod (.int .i64) (.prod (.sl 150 (.int .u64)) (.sl 2 (.int .i64)))))))), .emp 145 (.prod (.int .i64) (.prod (.int .i64) (.prod (.int .i64) (.prod (.int .i64) (.prod (.int .i64) (.prod (.sl 150 (.int .u64)) (.sl 2 (.int .i64))))))))], some (.prod (.int .i64) (.prod .bool (.prod (.sl 145 (.prod (.int .i64) (.prod (.int .i64) (.prod (.int .i64) (.prod (.int .i64) (.prod (.int .i64) (.prod (.sl 150 (.int .u64)) (.sl 2 (.int .i64))))))))) (.sl 145 (.prod (.int .i64) (.prod (.int .i64) (.prod (.int .i64) (.prod (.int .i64) (.prod (.int .i64) (.prod (.sl 150 (.int .u64)) (.sl 2 (.int .i64)))))))))))), none, [(0, 2), (1, 4), (2, 89), (3, 89)]⟩),
(114, ⟨true, 4, 64, [.int .i64 0, .bool false, .emp 145 (.prod (.int .i64) (.prod (.int .i64) (.prod (.int .i64) (.prod (.int .i64) (.prod (.int .i64) (.prod (.sl 150 (.int .u64)) (.sl 2 (.int .i64)))))))), .emp 145 (.prod (.int .i64) (.prod (.int .i64) (.prod (.int .i64) (.prod (.int .i64) (.prod (.int .i64) (.prod (.sl 150 (.int .u64)) (.sl 2 (.int .i64))))))))], some (.prod (.int .i64) (.prod .bool (.prod (.sl 145 (.prod (.int .i64) (.prod (.int .i64) (.prod (.int .i64) (.prod (.int .i64) (.prod (.int .i64) (.prod (.sl 150 (.int .u64)) (.sl 2 (.int .i64))))))))) (.sl 145 (.prod (.int .i64) (.prod (.int .i64) (.prod (.int .i64) (.prod (.int .i64) (.prod (.int .i64) (.prod (.sl 150 (.int .u64)) (.sl 2 (.int .i64)))))))))))), none, [(0, 2), (1, 4), (2, 89), (3, 89)]⟩),
(115, ⟨false, 1, 8, [.undef], none, none, []⟩),
(116, ⟨false, 1, 8, [.undef], none, none, []⟩),
(117, ⟨false, 1, 8, [.undef], none, none, []⟩),
(118, ⟨false, 1, 8, [.undef], none, none, []⟩),
(119, ⟨false, 1, 8, [.undef], none, none, []⟩),
(120, ⟨false, 1, 8, [.undef], none, none, []⟩),
(121, ⟨false, 1, 8, [.undef], none, none, []⟩),
(122, ⟨false, 1, 8, [.undef], none, none, []⟩),
(123, ⟨false, 1, 8, [.undef], none, none, []⟩),
(124, ⟨false, 1, 8, [.undef], none, none, []⟩),
(125, ⟨true, 2, 32, [.int .i64 0, .emp 114 (.prod (.int .i64) (.prod .bool (.prod (.sl 145 (.prod (.int .i64) (.prod (.int .i64) (.prod (.int .i64) (.prod (.int .i64) (.prod (.int .i64) (.prod (.sl 150 (.int .u64)) (.sl 2 (.int .i64))))))))) (.sl 145 (.prod (.int .i64) (.prod (.int .i64) (.prod (.int .i64) (.prod (.int .i64) (.prod (.int .i64) (.prod (.sl 150 (.int .u64)) (.sl 2 (.int .i64))))))))))))], some (.prod (.int .i64) (.sl 114 (.prod (.int .i64) (.prod .bool (.prod (.sl 145 (.prod (.int .i64) (.prod (.int .i64) (.prod (.int .i64) (.prod (.int .i64) (.prod (.int .i64) (.prod (.sl 150 (.int .u64)) (.sl 2 (.int .i64))))))))) (.sl 145 (.prod (.int .i64) (.prod (.int .i64) (.prod (.int .i64) (.prod (.int .i64) (.prod (.int .i64) (.prod (.sl 150 (.int .u64)) (.sl 2 (.int .i64)))))))))))))), none, [(0, 2), (1, 48)]⟩),
(126, ⟨true, 2, 32, [.int .i64 0, .emp 114 (.prod (.int .i64) (.prod .bool (.prod (.sl 145 (.prod (.int .i64) (.prod (.int .i64) (.prod (.int .i64) (.prod (.int .i64) (.prod (.int .i64) (.prod (.sl 150 (.int .u64)) (.sl 2 (.int .i64))))))))) (.sl 145 (.prod (.int .i64) (.prod (.int .i64) (.prod (.int .i64) (.prod (.int .i64) (.prod (.int .i64) (.prod (.sl 150 (.int .u64)) (.sl 2 (.int .i64))))))))))))], some (.prod (.int .i64) (.sl 114 (.prod (.int .i64) (.prod .bool (.prod (.sl 145 (.prod (.int .i64) (.prod (.int .i64) (.prod (.int .i64) (.prod (.int .i64) (.prod (.int .i64) (.prod (.sl 150 (.int .u64)) (.sl 2 (.int .i64))))))))) (.sl 145 (.prod (.int .i64) (.prod (.int .i64) (.prod (.int .i64) (.prod (.int .i64) (.prod (.int .i64) (.prod (.sl 150 (.int .u64)) (.sl 2 (.int .i64)))))))))))))), none, [(0, 2), (1, 48)]⟩),
(127, ⟨false, 1, 8, [.undef], none, none, []⟩),
(128, ⟨false, 1, 8, [.undef], none, none, []⟩),
(129, ⟨false, 1, 8, [.undef], none, none, []⟩),
(130, ⟨false, 1, 8, [.undef], none, none, []⟩),
(131, ⟨false, 1, 8, [.undef], none, none, []⟩),
(132, ⟨false, 1, 8, [.undef], none, none, []⟩),
(133, ⟨false, 1, 8, [.undef], none, none, []⟩),
(134, ⟨false, 1, 8, [.undef], none, none, []⟩),
(135, ⟨false, 1, 8, [.undef], none, none, []⟩),
(136, ⟨false, 1, 8, [.int .u64 0], some (.int .u64), none, []⟩),
(137, ⟨false, 1, 8, [.undef], none, none, []⟩),
(138, ⟨false, 1, 8, [.undef], none, none, []⟩),
(139, ⟨false, 1, 8, [.undef], none, none, []⟩),
(140, ⟨false, 1, 8, [.undef], none, none, []⟩),
(141, ⟨false, 1, 8, [.undef], none, none, []⟩),
(142, ⟨false, 1, 8, [.undef], none, none, []⟩),
(143, ⟨false, 1, 8, [.undef], none, none, []⟩),
(144, ⟨true, 7, 88, [.int .i64 0, .int .i64 0, .int .i64 0, .int .i64 0, .int .i64 0, .emp 150 (.int .u64), .emp 2 (.int .i64)], some (.prod (.int .i64) (.prod (.int .i64) (.prod (.int .i64) (.prod (.int .i64) (.prod (.int .i64) (.prod (.sl 150 (.int .u64)) (.sl 2 (.int .i64)))))))), none, [(0, 2), (1, 2), (2, 2), (3, 2), (4, 92), (6, 45)]⟩),
(145, ⟨true, 7, 88, [.int .i64 0, .int .i64 0, .int .i64 0, .int .i64 0, .int .i64 0, .emp 150 (.int .u64), .emp 2 (.int .i64)], some (.prod (.int .i64) (.prod (.int .i64) (.prod (.int .i64) (.prod (.int .i64) (.prod (.int .i64) (.prod (.sl 150 (.int .u64)) (.sl 2 (.int .i64)))))))), none, [(0, 2), (1, 2), (2, 2), (3, 2), (4, 92), (6, 45)]⟩),
(146, ⟨false, 1, 8, [.undef], none, none, []⟩),
(147, ⟨false, 1, 8, [.undef], none, none, []⟩),
(148, ⟨false, 1, 8, [.undef], none, none, []⟩),
(149, ⟨false, 1, 8, [.undef], none, none, []⟩),
(150, ⟨false, 1, 8, [.int .u64 0], some (.int .u64), none, []⟩),
(151, ⟨false, 1, 8, [.undef], none, none, []⟩),
(152, ⟨false, 1, 8, [.undef], none, none, []⟩),
(153, ⟨false, 1, 8, [.undef], none, none, []⟩),
(154, ⟨false, 1, 8, [.undef], none, none, []⟩),
(155, ⟨false, 1, 24, [.emp 5 (.int .u8)], some (.sl 5 (.int .u8)), some 5, []⟩),
(156, ⟨false, 1, 8, [.undef], none, none, []⟩),
(157, ⟨false, 1, 8, [.undef], none, none, []⟩),
(158, ⟨false, 1, 8, [.undef], none, none, []⟩),
(159, ⟨true, 2, 32, [.int .i64 0, .emp 109 (.prod (.int .i64) (.prod .bool (.prod (.sl 192 (.prod (.int .i64) (.prod (.int .i64) (.prod (.int .i64) (.prod (.int .i64) (.prod (.int .i64) (.prod (.sl 150 (.int .u64)) (.sl 2 (.int .i64))))))))) (.sl 192 (.prod (.int .i64) (.prod (.int .i64) (.prod (.int .i64) (.prod (.int .i64) (.prod (.int .i64) (.prod (.sl 150 (.int .u64)) (.sl 2 (.int .i64))))))))))))], some (.prod (.int .i64) (.sl 109 (.prod (.int .i64) (.prod .bool (.prod (.sl 192 (.prod (.int .i64) (.prod (.int .i64) (.prod (.int .i64) (.prod (.int .i64) (.prod (.int .i64) (.prod (.sl 150 (.int .u64)) (.sl 2 (.int .i64))))))))) (.sl 192 (.prod (.int .i64) (.prod (.int .i64) (.prod (.int .i64) (.prod (.int .i64) (.prod (.int .i64) (.prod (.sl 150 (.int .u64)) (.sl 2 (.int .i64)))))))))))))), none, [(0, 2), (1, 43)]⟩),
(160, ⟨true, 2, 32, [.int .i64 0, .emp 109 (.prod (.int .i64) (.prod .bool (.prod (.sl 192 (.prod (.int .i64) (.prod (.int .i64) (.prod (.int .i64) (.prod (.int .i64) (.prod (.int .i64) (.prod (.sl 150 (.int .u64)) (.sl 2 (.int .i64))))))))) (.sl 192 (.prod (.int .i64) (.prod (.int .i64) (.prod (.int .i64) (.prod (.int .i64) (.prod (.int .i64) (.prod (.sl 150 (.int .u64)) (.sl 2 (.int .i64))))))))))))], some (.prod (.int .i64) (.sl 109 (.prod (.int .i64) (.prod .bool (.prod (.sl 192 (.prod (.int .i64) (.prod (.int .i64) (.prod (.int .i64) (.prod (.int .i64) (.prod (.int .i64) (.prod (.sl 150 (.int .u64)) (.sl 2 (.int .i64))))))))) (.sl 192 (.prod (.int .i64) (.prod (.int .i64) (.prod (.int .i64) (.prod (.int .i64) (.prod (.int .i64) (.prod (.sl 150 (.int .u64)) (.sl 2 (.int .i64)))))))))))))), none, [(0, 2), (1, 43)]⟩),
(161, ⟨false, 1, 8, [.undef], none, none, []⟩),
(162, ⟨false, 1, 8, [.undef], none, none, []⟩),
(163, ⟨false, 1, 8, [.undef], none, none, []⟩),
(164, ⟨false, 1, 8, [.undef], none, none, []⟩),
(165, ⟨false, 1, 8, [.undef], none, none, []⟩),
(166, ⟨false, 1, 8, [.undef], none, none, []⟩),
(167, ⟨false, 1, 8, [.undef], none, none, []⟩),
(168, ⟨false, 1, 8, [.undef], none, none, []⟩),
(170, ⟨false, 1, 8, [.undef], none, none, []⟩),
(172, ⟨false, 1, 8, [.undef], none, none, []⟩),
(173, ⟨false, 1, 8, [.undef], none, none, []⟩),
(174, ⟨false, 1, 8, [.undef], none, none, []⟩),
(175, ⟨false, 1, 8, [.undef], none, none, []⟩),
(176, ⟨false, 1, 8, [.undef], none, none, []⟩),
(177, ⟨false, 1, 8, [.undef], none, none, []⟩),
(178, ⟨false, 1, 8, [.undef], none, none, []⟩),
(179, ⟨false, 1, 8, [.undef], none, none, []⟩),
(180, ⟨false, 1, 8, [.undef], none, none, []⟩),
(181, ⟨false, 1, 8, [.undef], none, none, []⟩),
(182, ⟨false, 1, 8, [.undef], none, none, []⟩),
(183, ⟨false, 1, 8, [.undef], none, none, []⟩),
(184, ⟨false, 1, 8, [.undef], none, none, []⟩),
(185, ⟨false, 1, 8, [.undef], none, none, []⟩),
(186, ⟨false, 1, 8, [.undef], none, none, []⟩),
(187, ⟨false, 1, 8, [.undef], none, none, []⟩),
(188, ⟨false, 1, 8, [.undef], none, none, []⟩),
(189, ⟨false, 1, 8, [.undef], none, none, []⟩),
(190, ⟨false, 1, 8, [.undef], none, none, []⟩),
(191, ⟨true, 7, 88, [.int .i64 0, .int .i64 0, .int .i64 0, .int .i64 0, .int .i64 0, .emp 150 (.int .u64), .emp 2 (.int .i64)], some (.prod (.int .i64) (.prod (.int .i64) (.prod (.int .i64) (.prod (.int .i64) (.prod (.int .i64) (.prod (.sl 150 (.int .u64)) (.sl 2 (.int .i64)))))))), none, [(0, 2), (1, 2), (2, 2), (3, 2), (4, 84), (6, 45)]⟩),
(192, ⟨true, 7, 88, [.int .i64 0, .int .i64 0, .int .i64 0, .int .i64 0, .int .i64 0, .emp 150 (.int .u64), .emp 2 (.int .i64)], some (.prod (.int .i64) (.prod (.int .i64) (.prod (.int .i64) (.prod (.int .i64) (.prod (.int .i64) (.prod (.sl 150 (.int .u64)) (.sl 2 (.int .i64)))))))), none, [(0, 2), (1, 2), (2, 2), (3, 2), (4, 84), (6, 45)]⟩),
(193, ⟨false, 1, 24, [.emp 4 .bool], some (.sl 4 .bool), some 4, []⟩),
(194, ⟨false, 1, 8, [.undef], none, none, []⟩),
(195, ⟨false, 1, 8, [.undef], none, none, []⟩),
(196, ⟨false, 1, 8, [.undef], none, none, []⟩),
(197, ⟨false, 1, 8, [.undef], none, none, []⟩),
(198, ⟨false, 1, 8, [.undef], none, none, []⟩),
(199, ⟨false, 1, 8, [.undef], none, none, []⟩),
(200, ⟨false, 1, 8, [.undef], none, none, []⟩),
(201, ⟨false, 1, 8, [.undef], none, none, []⟩),
(202, ⟨false, 1, 8, [.undef], none, none, []⟩)]
noncomputable def fns : List (Nat × Func) := [(6, Tryz.f6), (9, Tryz.f9), (13, Tryz.f13), (18, Tryz.f18), (20, Tryz.f20), (24, Tryz.f24), (26, Tryz.f26), (28, Tryz.f28), (29, Tryz.f29), (30, Tryz.f30), (31, Tryz.f31), (32, Tryz.f32), (33, Tryz.f33), (35, Tryz.f35), (37, Tryz.f37), (38, Tryz.f38), (39, Tryz.f39), (40, Tryz.f40), (41, Tryz.f41), (46, Tryz.f46), (48, Tryz.f48), (53, Tryz.f53), (55, Tryz.f55), (60, Tryz.f60), (62, Tryz.f62), (63, Tryz.f63), (65, Tryz.f65), (66, Tryz.f66), (67, Tryz.f67), (68, Tryz.f68), (69, Tryz.f69), (70, Tryz.f70), (72, Tryz.f72), (73, Tryz.f73), (79, Tryz.f79), (80, Tryz.f80), (81, Tryz.f81), (82, Tryz.f82), (83, Tryz.f83), (84, Tryz.f84), (85, Tryz.f85), (86, Tryz.f86), (87, Tryz.f87), (88, Tryz.f88), (89, Tryz.f89), (90, Tryz.f90), (92, Tryz.f92), (93, Tryz.f93), (94, Tryz.f94), (95, Tryz.f95), (96, Tryz.f96), (105, Tryz.f105), (106, Tryz.f106), (107, Tryz.f107), (108, Tryz.f108), (110, Tryz.f110), (111, Tryz.f111), (112, Tryz.f112), (115, Tryz.f115), (116, Tryz.f116), (118, Tryz.f118), (119, Tryz.f119), (123, Tryz.f123), (124, Tryz.f124), (125, Tryz.f125), (126, Tryz.f126), (127, Tryz.f127), (128, Tryz.f128), (129, Tryz.f129), (130, Tryz.f130), (131, Tryz.f131), (132, Tryz.f132), (133, Tryz.f133), (134, Tryz.f134), (141, Tryz.f141), (142, Tryz.f142), (143, Tryz.f143), (149, Tryz.f149), (150, Tryz.f150), (151, Tryz.f151), (157, Tryz.f157), (159, Tryz.f159), (160, Tryz.f160), (161, Tryz.f161), (164, Tryz.f164), (165, Tryz.f165), (166, Tryz.f166), (168, Tryz.f168), (169, Tryz.f169), (170, Tryz.f170), (171, Tryz.f171), (172, Tryz.f172), (176, Tryz.f176), (177, Tryz.f177), (178, Tryz.f178), (179, Tryz.f179), (180, Tryz.f180), (181, Tryz.f181), (182, Tryz.f182), (183, Tryz.f183), (184, Tryz.f184)]
def fis : List (Nat × Fi) := [
(6, ⟨[], [], []⟩),
(9, ⟨[], [], [(5, ⟨⟨[0, 1, 5], []⟩, [(0, ⟨[1], []⟩)], ⟨[4], []⟩⟩)]⟩),
(13, ⟨[], [], [(3, ⟨⟨[0, 3, 4], []⟩, [(0, ⟨[3], []⟩)], ⟨[2], []⟩⟩)]⟩),
(18, ⟨[], [], [(4, ⟨⟨[0, 1, 5], []⟩, [(0, ⟨[], []⟩)], ⟨[4], []⟩⟩)]⟩),
(20, ⟨[1], [], [(2, ⟨⟨[0, 1, 5], []⟩, [(0, ⟨[1], []⟩)], ⟨[4], []⟩⟩)]⟩),
(24, ⟨[], [], [(5, ⟨⟨[0, 1, 5], []⟩, [(0, ⟨[1], []⟩)], ⟨[4], []⟩⟩)]⟩),
(26, ⟨[], [], [(3, ⟨⟨[0, 3, 4], []⟩, [(0, ⟨[3], []⟩)], ⟨[2], []⟩⟩)]⟩),
(28, ⟨[], [], [(4, ⟨⟨[0, 1, 5], []⟩, [(0, ⟨[], []⟩)], ⟨[4], []⟩⟩)]⟩),
(29, ⟨[], [], [(4, ⟨⟨[0, 1, 5], []⟩, [(0, ⟨[], []⟩)], ⟨[4], []⟩⟩)]⟩),
(30, ⟨[1], [], [(2, ⟨⟨[0, 1, 5], []⟩, [(0, ⟨[1], []⟩)], ⟨[4], []⟩⟩)]⟩),
(31, ⟨[1], [], [(2, ⟨⟨[0, 1, 5], []⟩, [(0, ⟨[1], []⟩)], ⟨[4], []⟩⟩)]⟩),
(32, ⟨[], [], [(2, ⟨⟨[0, 1, 5], []⟩, [(0, ⟨[1], []⟩)], ⟨[4], []⟩⟩)]⟩),
(33, ⟨[], [], []⟩),
(35, ⟨[], [], []⟩),
(37, ⟨[], [], []⟩),
(38, ⟨[1], [], []⟩),
(39, ⟨[], [], []⟩),
(40, ⟨[], [], []⟩),
(41, ⟨[], [], []⟩),
(46, ⟨[], [], []⟩),
(48, ⟨[], [], []⟩),
(53, ⟨[], [], []⟩),
(55, ⟨[], [], []⟩),
(60, ⟨[], [], []⟩),
(62, ⟨[], [], []⟩),
(63, ⟨[], [], []⟩),
(65, ⟨[], [], [(4, ⟨⟨[0, 3], []⟩, [(0, ⟨[3], []⟩)], ⟨[2], []⟩⟩)]⟩),
(66, ⟨[1], [], [(2, ⟨⟨[0, 1, 5], []⟩, [(0, ⟨[1], []⟩)], ⟨[4], []⟩⟩)]⟩),
(67, ⟨[1], [], [(2, ⟨⟨[0, 1, 5], []⟩, [(0, ⟨[1], []⟩)], ⟨[4], []⟩⟩)]⟩),
(68, ⟨[], [], [(2, ⟨⟨[0, 1, 5], []⟩, [(0, ⟨[1], []⟩)], ⟨[4], []⟩⟩)]⟩),
(69, ⟨[], [], []⟩),
(70, ⟨[], [], [(4, ⟨⟨[0, 1, 5], []⟩, [(0, ⟨[], []⟩)], ⟨[4], []⟩⟩)]⟩),
(72, ⟨[], [], []⟩),
(73, ⟨[], [], [(5, ⟨⟨[0, 5, 12, 13, 14], []⟩, [(0, ⟨[], []⟩)], ⟨[4], []⟩⟩)]⟩),
(79, ⟨[], [], []⟩),
(80, ⟨[], [], [(5, ⟨⟨[0, 1, 5], []⟩, [(0, ⟨[1], []⟩)], ⟨[4], []⟩⟩)]⟩),
(81, ⟨[], [], [(5, ⟨⟨[1, 3, 4], []⟩, [(0, ⟨[1, 3], []⟩)], ⟨[2], []⟩⟩), (12, ⟨⟨[1, 3, 5, 6, 7], []⟩, [(2, ⟨[1, 5, 6], []⟩)], ⟨[2], []⟩⟩), (21, ⟨⟨[1, 3, 5, 6, 7, 9, 10], []⟩, [(4, ⟨[1, 3, 5, 6, 7, 9], []⟩)], ⟨[2], []⟩⟩)]⟩),
(82, ⟨[], [], [(3, ⟨⟨[1, 2, 3, 4], [(1000003, 1, .own 99)]⟩, [(0, ⟨[2, 3], []⟩)], ⟨[2], []⟩⟩)]⟩),
(83, ⟨[], [], [(3, ⟨⟨[0, 3, 4], []⟩, [(0, ⟨[3], []⟩)], ⟨[2], []⟩⟩)]⟩),
(84, ⟨[], [], [(5, ⟨⟨[1, 3, 34, 35, 36], []⟩, [(0, ⟨[1], []⟩)], ⟨[2], []⟩⟩), (12, ⟨⟨[1, 62, 63, 64], []⟩, [(2, ⟨[1], []⟩)], ⟨[2], []⟩⟩), (21, ⟨⟨[1, 8, 83, 84, 85], []⟩, [(4, ⟨[], []⟩)], ⟨[2], []⟩⟩)]⟩),
(85, ⟨[], [], [(3, ⟨⟨[2, 3, 17, 18, 19], []⟩, [(0, ⟨[2, 3], []⟩)], ⟨[2], []⟩⟩), (1000002, ⟨⟨[1, 2, 3], []⟩, [(1000000, ⟨[2], []⟩)], ⟨[2], []⟩⟩)]⟩),
(86, ⟨[], [], [(4, ⟨⟨[0, 1, 5], []⟩, [(0, ⟨[], []⟩)], ⟨[4], []⟩⟩)]⟩),
(87, ⟨[1], [], [(2, ⟨⟨[0, 1, 5], []⟩, [(0, ⟨[1], []⟩)], ⟨[4], []⟩⟩)]⟩),
(88, ⟨[], [], [(2, ⟨⟨[0, 1, 5], []⟩, [(0, ⟨[1], []⟩)], ⟨[4], []⟩⟩)]⟩),
(89, ⟨[], [], [(2, ⟨⟨[0, 1, 5], []⟩, [(0, ⟨[1], []⟩)], ⟨[4], []⟩⟩)]⟩),
(90, ⟨[], [], [(4, ⟨⟨[0, 3], []⟩, [(0, ⟨[], []⟩)], ⟨[2], []⟩⟩)]⟩),
(92, ⟨[], [], []⟩),
(93, ⟨[], [], [(5, ⟨⟨[0, 3, 4], []⟩, [(0, ⟨[3], []⟩)], ⟨[2], []⟩⟩), (10, ⟨⟨[0, 3, 4, 5], []⟩, [(2, ⟨[0, 3, 4], []⟩)], ⟨[2], []⟩⟩)]⟩),
(94, ⟨[], [], [(4, ⟨⟨[0, 3], []⟩, [(0, ⟨[], []⟩)], ⟨[2], []⟩⟩)]⟩),
(95, ⟨[], [], []⟩),
(96, ⟨[], [], []⟩),
(105, ⟨[], [], []⟩),
(106, ⟨[], [], []⟩),
(107, ⟨[], [], [(4, ⟨⟨[1, 3], []⟩, [(0, ⟨[], []⟩)], ⟨[2], []⟩⟩)]⟩),
(108, ⟨[], [], []⟩),
(110, ⟨[], [], []⟩),
(111, ⟨[], [], [(3, ⟨⟨[0, 3, 4], []⟩, [(0, ⟨[3], []⟩)], ⟨[2], []⟩⟩)]⟩),
(112, ⟨[], [], [(5, ⟨⟨[0, 3, 9, 10, 11], []⟩, [(0, ⟨[3], []⟩)], ⟨[2], []⟩⟩)]⟩),
(115, ⟨[], [], []⟩),
(116, ⟨[], [], []⟩),
(118, ⟨[], [], [(4, ⟨⟨[0, 1, 5], []⟩, [(0, ⟨[], []⟩)], ⟨[4], []⟩⟩)]⟩),
(119, ⟨[], [], []⟩),
(123, ⟨[], [], []⟩),
(124, ⟨[], [], [(3, ⟨⟨[0, 3, 4], [(3, 0, .own 99)]⟩, [(0, ⟨[3], []⟩)], ⟨[2], []⟩⟩)]⟩),
(125, ⟨[], [], []⟩),
(126, ⟨[], [], []⟩),
(127, ⟨[], [some 1], [(3, ⟨⟨[3, 10, 11, 12], [(3, 0, .own 1)]⟩, [(0, ⟨[3], []⟩)], ⟨[2], []⟩⟩)]⟩),
(128, ⟨[], [], []⟩),
(129, ⟨[], [], [(3, ⟨⟨[3, 9, 10, 11], []⟩, [(0, ⟨[3], []⟩)], ⟨[2], []⟩⟩)]⟩),
(130, ⟨[], [], []⟩),
(131, ⟨[], [], [(2, ⟨⟨[0, 1, 5], []⟩, [(0, ⟨[1], []⟩)], ⟨[4], []⟩⟩)]⟩),
(132, ⟨[], [], []⟩),
(133, ⟨[], [], [(2, ⟨⟨[0, 1, 7, 8], []⟩, [(0, ⟨[], []⟩)], ⟨[4], []⟩⟩)]⟩),
(134, ⟨[], [], []⟩),
(141, ⟨[], [], [(5, ⟨⟨[0, 1, 5], []⟩, [(0, ⟨[1], []⟩)], ⟨[4], []⟩⟩)]⟩),
(142, ⟨[], [], []⟩),
(143, ⟨[], [], [(7, ⟨⟨[0, 3, 5, 6, 7, 8], [(6, 0, .own 99)]⟩, [(0, ⟨[5, 6, 7], []⟩)], ⟨[4], []⟩⟩), (16, ⟨⟨[0, 3, 5, 6, 7, 8, 10], []⟩, [(2, ⟨[0, 3, 5, 6, 7, 8], []⟩)], ⟨[4], []⟩⟩), (20, ⟨⟨[5, 6, 7, 11], []⟩, [(4, ⟨[6], []⟩)], ⟨[4], []⟩⟩)]⟩),
(149, ⟨[], [], [(3, ⟨⟨[0, 3, 4], []⟩, [(0, ⟨[3], []⟩)], ⟨[2], []⟩⟩)]⟩),
(150, ⟨[], [], []⟩),
(151, ⟨[], [], [(6, ⟨⟨[0, 3, 6, 7, 8, 29, 30], []⟩, [(0, ⟨[6, 7, 8], []⟩)], ⟨[4, 5], []⟩⟩), (13, ⟨⟨[0, 3, 6, 7, 8, 9, 10, 11, 29, 30, 52, 53, 54], []⟩, [(2, ⟨[0, 3, 6, 7, 8, 9, 10, 11, 29, 30], []⟩)], ⟨[4, 5], []⟩⟩)]⟩),
(157, ⟨[], [], [(4, ⟨⟨[0, 1, 5], []⟩, [(0, ⟨[], []⟩)], ⟨[4], []⟩⟩)]⟩),
(159, ⟨[], [], [(3, ⟨⟨[1, 2, 3, 4], [(1000003, 0, .own 99)]⟩, [(0, ⟨[2, 3], []⟩)], ⟨[2], []⟩⟩)]⟩),
(160, ⟨[], [], [(3, ⟨⟨[2, 3, 12, 13, 14], []⟩, [(0, ⟨[2, 3], []⟩)], ⟨[2], []⟩⟩)]⟩),
(161, ⟨[], [], [(2, ⟨⟨[0, 1, 5], []⟩, [(0, ⟨[1], []⟩)], ⟨[4], []⟩⟩)]⟩),
(164, ⟨[], [], []⟩),
(165, ⟨[], [], [(2, ⟨⟨[0, 2, 4, 7], []⟩, [(0, ⟨[0, 4], []⟩)], ⟨[6], []⟩⟩), (1000007, ⟨⟨[0, 4, 63], []⟩, [(1000000, ⟨[0, 4], []⟩)], ⟨[6], []⟩⟩), (1000008, ⟨⟨[0, 4], []⟩, [(1000000, ⟨[6], []⟩)], ⟨[6], []⟩⟩)]⟩),
(166, ⟨[], [], [(3, ⟨⟨[0, 2, 4, 7, 8], []⟩, [(0, ⟨[0, 4, 7], []⟩)], ⟨[6], []⟩⟩)]⟩),
(168, ⟨[], [], []⟩),
(169, ⟨[], [], []⟩),
(170, ⟨[], [], [(11, ⟨⟨[8, 80, 81, 82], []⟩, [(1, ⟨[8], []⟩)], ⟨[6], []⟩⟩), (1000005, ⟨⟨[0, 1, 2, 7, 17], []⟩, [(1000000, ⟨[], []⟩)], ⟨[6], []⟩⟩), (1000009, ⟨⟨[0, 2, 7, 69], []⟩, [(1000000, ⟨[], []⟩)], ⟨[6], []⟩⟩), (1000021, ⟨⟨[0, 7, 137], []⟩, [(1000000, ⟨[], []⟩)], ⟨[6], []⟩⟩)]⟩),
(171, ⟨[], [], [(1000002, ⟨⟨[0, 3], []⟩, [(1000000, ⟨[2], []⟩)], ⟨[2], []⟩⟩), (1000003, ⟨⟨[0, 52], []⟩, [(1000000, ⟨[0], []⟩)], ⟨[2], []⟩⟩)]⟩),
(172, ⟨[], [], []⟩),
(176, ⟨[], [], []⟩),
(177, ⟨[], [], []⟩),
(178, ⟨[], [], []⟩),
(179, ⟨[], [], []⟩),
(180, ⟨[], [], []⟩),
(181, ⟨[], [], []⟩),
(182, ⟨[], [], [(3, ⟨⟨[0, 3, 4], []⟩, [(0, ⟨[3], []⟩)], ⟨[2], []⟩⟩)]⟩),
(183, ⟨[], [], [(2, ⟨⟨[0, 1, 7, 8], []⟩, [(0, ⟨[], []⟩)], ⟨[4], []⟩⟩)]⟩),
(184, ⟨[], [], []⟩)]
def fiF (f : Nat) : Fi := (look f fis).getD ⟨[], [], []⟩
noncomputable def C : Ctx := { ti := fun t => look t tis, fs := fun f => look f fns, fi := fiF }
def bodyOf (f : Func) : Code := f.body.getD .skip
def loopOf (f : Func) (k : Nat) : Code := (findLoop k (bodyOf f)).getD .skip
def cutOf (f : Func) (k : Nat) : Code := (findCut k (bodyOf f)).getD .skip
def liOf (l : List (Nat × Li)) (k : Nat) : Li := (look k l).getD ⟨⟨[], []⟩, [], ⟨[], []⟩⟩
theorem tis_ok : (tis.all fun x => tiB Tryz.prog x.1 x.2) = true := by kernel_rfl
theorem fns_all : (fns.all fun x => fnB (fiF x.1) x.2) = true := by kernel_rfl
theorem fnp (f : Nat) (x : Func) (r : List (Nat × Func)) (h : Tryz.prog.funcs[f]? = some x) (hr : ∀ y ∈ r, Tryz.prog.funcs[y.1]? = some y.2) : ∀ y ∈ (f, x) :: r, Tryz.prog.funcs[y.1]? = some y.2 := List.forall_mem_cons.2 ⟨h, hr⟩
set_option maxRecDepth 100000 in
theorem fns_prog : ∀ x ∈ fns, Tryz.prog.funcs[x.1]? = some x.2 := (fnp _ _ _ Tryz.func6
(fnp _ _ _ Tryz.func9
(fnp _ _ _ Tryz.func13
(fnp _ _ _ Tryz.func18
(fnp _ _ _ Tryz.func20
(fnp _ _ _ Tryz.func24
(fnp _ _ _ Tryz.func26
(fnp _ _ _ Tryz.func28
(fnp _ _ _ Tryz.func29
(fnp _ _ _ Tryz.func30
(fnp _ _ _ Tryz.func31
(fnp _ _ _ Tryz.func32
(fnp _ _ _ Tryz.func33
(fnp _ _ _ Tryz.func35
(fnp _ _ _ Tryz.func37
(fnp _ _ _ Tryz.func38
(fnp _ _ _ Tryz.func39
(fnp _ _ _ Tryz.func40
(fnp _ _ _ Tryz.func41
(fnp _ _ _ Tryz.func46
(fnp _ _ _ Tryz.func48
(fnp _ _ _ Tryz.func53
(fnp _ _ _ Tryz.func55
(fnp _ _ _ Tryz.func60
(fnp _ _ _ Tryz.func62
(fnp _ _ _ Tryz.func63
(fnp _ _ _ Tryz.func65
(fnp _ _ _ Tryz.func66
(fnp _ _ _ Tryz.func67
(fnp _ _ _ Tryz.func68
(fnp _ _ _ Tryz.func69
(fnp _ _ _ Tryz.func70
(fnp _ _ _ Tryz.func72
(fnp _ _ _ Tryz.func73
(fnp _ _ _ Tryz.func79
(fnp _ _ _ Tryz.func80
(fnp _ _ _ Tryz.func81
(fnp _ _ _ Tryz.func82
(fnp _ _ _ Tryz.func83
(fnp _ _ _ Tryz.func84
(fnp _ _ _ Tryz.func85
(fnp _ _ _ Tryz.func86
(fnp _ _ _ Tryz.func87
(fnp _ _ _ Tryz.func88
(fnp _ _ _ Tryz.func89
(fnp _ _ _ Tryz.func90
(fnp _ _ _ Tryz.func92
(fnp _ _ _ Tryz.func93
(fnp _ _ _ Tryz.func94
(fnp _ _ _ Tryz.func95
(fnp _ _ _ Tryz.func96
(fnp _ _ _ Tryz.func105
(fnp _ _ _ Tryz.func106
(fnp _ _ _ Tryz.func107
(fnp _ _ _ Tryz.func108
(fnp _ _ _ Tryz.func110
(fnp _ _ _ Tryz.func111
(fnp _ _ _ Tryz.func112
(fnp _ _ _ Tryz.func115
(fnp _ _ _ Tryz.func116
(fnp _ _ _ Tryz.func118
(fnp _ _ _ Tryz.func119
(fnp _ _ _ Tryz.func123
(fnp _ _ _ Tryz.func124
(fnp _ _ _ Tryz.func125
(fnp _ _ _ Tryz.func126
(fnp _ _ _ Tryz.func127
(fnp _ _ _ Tryz.func128
(fnp _ _ _ Tryz.func129
(fnp _ _ _ Tryz.func130
(fnp _ _ _ Tryz.func131
(fnp _ _ _ Tryz.func132
(fnp _ _ _ Tryz.func133
(fnp _ _ _ Tryz.func134
(fnp _ _ _ Tryz.func141
(fnp _ _ _ Tryz.func142
(fnp _ _ _ Tryz.func143
(fnp _ _ _ Tryz.func149
(fnp _ _ _ Tryz.func150
(fnp _ _ _ Tryz.func151
(fnp _ _ _ Tryz.func157
(fnp _ _ _ Tryz.func159
(fnp _ _ _ Tryz.func160
(fnp _ _ _ Tryz.func161
(fnp _ _ _ Tryz.func164
(fnp _ _ _ Tryz.func165
(fnp _ _ _ Tryz.func166
(fnp _ _ _ Tryz.func168
(fnp _ _ _ Tryz.func169
(fnp _ _ _ Tryz.func170
(fnp _ _ _ Tryz.func171
(fnp _ _ _ Tryz.func172
(fnp _ _ _ Tryz.func176
(fnp _ _ _ Tryz.func177
(fnp _ _ _ Tryz.func178
(fnp _ _ _ Tryz.func179
(fnp _ _ _ Tryz.func180
(fnp _ _ _ Tryz.func181
(fnp _ _ _ Tryz.func182
(fnp _ _ _ Tryz.func183
(fnp _ _ _ Tryz.func184
(fun _ h => by cases h))))))))))))))))))))))))))))))))))))))))))))))))))))))))))))))))))))))))))))))))))))))))))))))))))))))
theorem C_ok : CtxOK Tryz.prog C := ctx_ok tis_ok fns_prog
theorem C_fns : FnsOK Tryz.prog C := Go.Vsi.fns_ok fns_all
theorem C_follows : Tryz.prog.follows .mixedOrders = true := by kernel_rfl
def D0 (n : Nat) : CallF := noC
theorem D0_ok {X0 : CallF} (hX : CallF.Mono X0) : ∀ n g a K, D0 n g a K → callM C X0 n g a K := fun n => noC_ok
end Go.Vsi
end

section
set_option linter.unusedVariables false
namespace Go.Vsi
open Go.Proofs
section
variable {X0 : CallF} (hX : CallF.Mono X0)
include hX
abbrev laws_szDecl.a : List TS := [.a [.o .str, .o (.int .i64)], .c (.o (.int .i64))]
def laws_szDecl.u (n : Nat) (v : VA laws_szDecl.a) (K : RES → Prop) : Prop := laws_szDecl.c n v.1.1 v.1.2.1 v.2.1 (fun r0 => K ⟨.c (.int .i64 r0), []⟩)
theorem laws_szDecl_ok : ∀ n v K, laws_szDecl.u n v K → callM C X0 n 46 (fillA laws_szDecl.a v) K :=
 call_tell hX (fn := Tryz.f46) (c := bodyOf Tryz.f46) (by kernel_rfl) (by kernel_rfl) (A := laws_szDecl.a) (u := laws_szDecl.u) (fun _ _ h => h) (call := D0) (lp := fun n => noL) (D0_ok hX) (fun n => noL_ok) (fun n v K => by kernel_rfl)
def D1 (n : Nat) : CallF := orC 46 laws_szDecl.a (laws_szDecl.u n) (D0 n)
theorem D1_ok : ∀ n g a K, D1 n g a K → callM C X0 n g a K := fun n => orC_ok (laws_szDecl_ok hX n) (D0_ok hX n)
abbrev laws_szDeclS.a : List TS := [.c (.o (.dat 74 (.prod .str (.int .i64)))), .c (.o (.int .i64))]
def laws_szDeclS.u (n : Nat) (v : VA laws_szDeclS.a) (K : RES → Prop) : Prop := laws_szDeclS.c n v.1 v.2.1 (fun r0 => K ⟨.c (.int .i64 r0), []⟩)
abbrev laws_szDeclS.l5.s : ST := ⟨[(0, .c (.o (.dat 74 (.prod .str (.int .i64))))), (1, .c (.o (.int .i64))), (5, .c (.o (.int .i64)))], [], [], [], []⟩
def laws_szDeclS.l5.u (n : Nat) (v : laws_szDeclS.l5.s.V) (K : X → St → Prop) : Prop := laws_szDeclS.l5 n v.1.1 v.1.2.1 v.1.2.2.1 (fun y0 => K (.exit 0) ⟨[(1, .c (.int .i64 y0))], [], [], [], []⟩) (fun y0 => K .ret ⟨[(4, .c (.int .i64 y0))], [], [], [], []⟩)
theorem laws_szDeclS.l5_ok : ∀ n v K, laws_szDeclS.l5.u n v K → loopM C X0 n 9 5 (laws_szDeclS.l5.s.fill v) K :=
 loop_tell hX (fn := Tryz.f9) (c := bodyOf Tryz.f9) (a := loopOf Tryz.f9 5) (li := liOf (C.fi 9).loops 5) (by kernel_rfl) (by kernel_rfl) (of_decide_eq_true rfl) (by kernel_rfl) (by kernel_rfl) (T := laws_szDeclS.l5.s) (u := laws_szDeclS.l5.u) (fun _ _ h => h) (call := D1) (lp := fun n => noL) (D1_ok hX) (fun n => noL_ok) (fun n v K => by kernel_rfl)
theorem laws_szDeclS_ok : ∀ n v K, laws_szDeclS.u n v K → callM C X0 n 9 (fillA laws_szDeclS.a v) K :=
 call_tell hX (fn := Tryz.f9) (c := bodyOf Tryz.f9) (by kernel_rfl) (by kernel_rfl) (A := laws_szDeclS.a) (u := laws_szDeclS.u) (fun _ _ h => h) (call := D1) (lp := fun n => orL 5 laws_szDeclS.l5.s (laws_szDeclS.l5.u n) noL) (D1_ok hX) (fun n => (orL_ok (laws_szDeclS.l5_ok hX n) noL_ok)) (fun n v K => by kernel_rfl)
def D2 (n : Nat) : CallF := orC 9 laws_szDeclS.a (laws_szDeclS.u n) (D1 n)
theorem D2_ok : ∀ n g a K, D2 n g a K → callM C X0 n g a K := fun n => orC_ok (laws_szDeclS_ok hX n) (D1_ok hX n)
abbrev laws_szUint64S.a : List TS := [.c (.o (.dat 150 (.int .u64))), .c (.o (.int .i64))]
def laws_szUint64S.u (n : Nat) (v : VA laws_szUint64S.a) (K : RES → Prop) : Prop := laws_szUint64S.c n v.1 v.2.1 (fun r0 => K ⟨.c (.int .i64 r0), []⟩)
theorem laws_szUint64S_ok : ∀ n v K, laws_szUint64S.u n v K → callM C X0 n 106 (fillA laws_szUint64S.a v) K :=
 call_tell hX (fn := Tryz.f106) (c := bodyOf Tryz.f106) (by kernel_rfl) (by kernel_rfl) (A := laws_szUint64S.a) (u := laws_szUint64S.u) (fun _ _ h => h) (call := D2) (lp := fun n => noL) (D2_ok hX) (fun n => noL_ok) (fun n v K => by kernel_rfl)
def D3 (n : Nat) : CallF := orC 106 laws_szUint64S.a (laws_szUint64S.u n) (D2 n)
theorem D3_ok : ∀ n g a K, D3 n g a K → callM C X0 n g a K := fun n => orC_ok (laws_szUint64S_ok hX n) (D2_ok hX n)
abbrev laws_szBits.a : List TS := [.a [.o (.int .i64), .o (.dat 150 (.int .u64))], .c (.o (.int .i64))]
def laws_szBits.u (n : Nat) (v : VA laws_szBits.a) (K : RES → Prop) : Prop := laws_szBits.c n v.1.1 v.1.2.1 v.2.1 (fun r0 => K ⟨.c (.int .i64 r0), []⟩)
theorem laws_szBits_ok : ∀ n v K, laws_szBits.u n v K → callM C X0 n 48 (fillA laws_szBits.a v) K :=
 call_tell hX (fn := Tryz.f48) (c := bodyOf Tryz.f48) (by kernel_rfl) (by kernel_rfl) (A := laws_szBits.a) (u := laws_szBits.u) (fun _ _ h => h) (call := D3) (lp := fun n => noL) (D3_ok hX) (fun n => noL_ok) (fun n v K => by kernel_rfl)
def D4 (n : Nat) : CallF := orC 48 laws_szBits.a (laws_szBits.u n) (D3 n)
theorem D4_ok : ∀ n g a K, D4 n g a K → callM C X0 n g a K := fun n => orC_ok (laws_szBits_ok hX n) (D3_ok hX n)
abbrev laws_szInt64S.a : List TS := [.c (.o (.dat 2 (.int .i64))), .c (.o (.int .i64))]
def laws_szInt64S.u (n : Nat) (v : VA laws_szInt64S.a) (K : RES → Prop) : Prop := laws_szInt64S.c n v.1 v.2.1 (fun r0 => K ⟨.c (.int .i64 r0), []⟩)
theorem laws_szInt64S_ok : ∀ n v K, laws_szInt64S.u n v K → callM C X0 n 179 (fillA laws_szInt64S.a v) K :=
 call_tell hX (fn := Tryz.f179) (c := bodyOf Tryz.f179) (by kernel_rfl) (by kernel_rfl) (A := laws_szInt64S.a) (u := laws_szInt64S.u) (fun _ _ h => h) (call := D4) (lp := fun n => noL) (D4_ok hX) (fun n => noL_ok) (fun n v K => by kernel_rfl)
def D5 (n : Nat) : CallF := orC 179 laws_szInt64S.a (laws_szInt64S.u n) (D4 n)
theorem D5_ok : ∀ n g a K, D5 n g a K → callM C X0 n g a K := fun n => orC_ok (laws_szInt64S_ok hX n) (D4_ok hX n)
abbrev laws_szTNode.a : List TS := [.a [.o (.int .i64), .o (.int .i64), .o (.int .i64), .o (.int .i64), .o (.int .i64), .o (.dat 150 (.int .u64)), .o (.dat 2 (.int .i64))], .c (.o (.int .i64))]
def laws_szTNode.u (n : Nat) (v : VA laws_szTNode.a) (K : RES → Prop) : Prop := laws_szTNode.c n v.1.1 v.1.2.1 v.1.2.2.1 v.1.2.2.2.1 v.1.2.2.2.2.1 v.1.2.2.2.2.2.1 v.1.2.2.2.2.2.2.1 v.2.1 (fun r0 => K ⟨.c (.int .i64 r0), []⟩)
theorem laws_szTNode_ok : ∀ n v K, laws_szTNode.u n v K → callM C X0 n 164 (fillA laws_szTNode.a v) K :=
 call_tell hX (fn := Tryz.f164) (c := bodyOf Tryz.f164) (by kernel_rfl) (by kernel_rfl) (A := laws_szTNode.a) (u := laws_szTNode.u) (fun _ _ h => h) (call := D5) (lp := fun n => noL) (D5_ok hX) (fun n => noL_ok) (fun n v K => by kernel_rfl)
def D6 (n : Nat) : CallF := orC 164 laws_szTNode.a (laws_szTNode.u n) (D5 n)
theorem D6_ok : ∀ n g a K, D6 n g a K → callM C X0 n g a K := fun n => orC_ok (laws_szTNode_ok hX n) (D5_ok hX n)
abbrev laws_szTNodeS.a : List TS := [.c (.o (.dat 192 (.prod (.int .i64) (.prod (.int .i64) (.prod (.int .i64) (.prod (.int .i64) (.prod (.int .i64) (.prod (.sl 150 (.int .u64)) (.sl 2 (.int .i64)))))))))), .c (.o (.int .i64))]
def laws_szTNodeS.u (n : Nat) (v : VA laws_szTNodeS.a) (K : RES → Prop) : Prop := laws_szTNodeS.c n v.1 v.2.1 (fun r0 => K ⟨.c (.int .i64 r0), []⟩)
abbrev laws_szTNodeS.l5.s : ST := ⟨[(0, .c (.o (.dat 192 (.prod (.int .i64) (.prod (.int .i64) (.prod (.int .i64) (.prod (.int .i64) (.prod (.int .i64) (.prod (.sl 150 (.int .u64)) (.sl 2 (.int .i64))))))))))), (1, .c (.o (.int .i64))), (5, .c (.o (.int .i64)))], [], [], [], []⟩
def laws_szTNodeS.l5.u (n : Nat) (v : laws_szTNodeS.l5.s.V) (K : X → St → Prop) : Prop := laws_szTNodeS.l5 n v.1.1 v.1.2.1 v.1.2.2.1 (fun y0 => K (.exit 0) ⟨[(1, .c (.int .i64 y0))], [], [], [], []⟩) (fun y0 => K .ret ⟨[(4, .c (.int .i64 y0))], [], [], [], []⟩)
theorem laws_szTNodeS.l5_ok : ∀ n v K, laws_szTNodeS.l5.u n v K → loopM C X0 n 141 5 (laws_szTNodeS.l5.s.fill v) K :=
 loop_tell hX (fn := Tryz.f141) (c := bodyOf Tryz.f141) (a := loopOf Tryz.f141 5) (li := liOf (C.fi 141).loops 5) (by kernel_rfl) (by kernel_rfl) (of_decide_eq_true rfl) (by kernel_rfl) (by kernel_rfl) (T := laws_szTNodeS.l5.s) (u := laws_szTNodeS.l5.u) (fun _ _ h => h) (call := D6) (lp := fun n => noL) (D6_ok hX) (fun n => noL_ok) (fun n v K => by kernel_rfl)
theorem laws_szTNodeS_ok : ∀ n v K, laws_szTNodeS.u n v K → callM C X0 n 141 (fillA laws_szTNodeS.a v) K :=
 call_tell hX (fn := Tryz.f141) (c := bodyOf Tryz.f141) (by kernel_rfl) (by kernel_rfl) (A := laws_szTNodeS.a) (u := laws_szTNodeS.u) (fun _ _ h => h) (call := D6) (lp := fun n => orL 5 laws_szTNodeS.l5.s (laws_szTNodeS.l5.u n) noL) (D6_ok hX) (fun n => (orL_ok (laws_szTNodeS.l5_ok hX n) noL_ok)) (fun n v K => by kernel_rfl)
def D7 (n : Nat) : CallF := orC 141 laws_szTNodeS.a (laws_szTNodeS.u n) (D6 n)
theorem D7_ok : ∀ n g a K, D7 n g a K → callM C X0 n g a K := fun n => orC_ok (laws_szTNodeS_ok hX n) (D6_ok hX n)
abbrev laws_szTerm.a : List TS := [.a [.o (.dat 192 (.prod (.int .i64) (.prod (.int .i64) (.prod (.int .i64) (.prod (.int .i64) (.prod (.int .i64) (.prod (.sl 150 (.int .u64)) (.sl 2 (.int .i64)))))))))], .c (.o (.int .i64))]
def laws_szTerm.u (n : Nat) (v : VA laws_szTerm.a) (K : RES → Prop) : Prop := laws_szTerm.c n v.1.1 v.2.1 (fun r0 => K ⟨.c (.int .i64 r0), []⟩)
theorem laws_szTerm_ok : ∀ n v K, laws_szTerm.u n v K → callM C X0 n 105 (fillA laws_szTerm.a v) K :=
 call_tell hX (fn := Tryz.f105) (c := bodyOf Tryz.f105) (by kernel_rfl) (by kernel_rfl) (A := laws_szTerm.a) (u := laws_szTerm.u) (fun _ _ h => h) (call := D7) (lp := fun n => noL) (D7_ok hX) (fun n => noL_ok) (fun n v K => by kernel_rfl)
def D8 (n : Nat) : CallF := orC 105 laws_szTerm.a (laws_szTerm.u n) (D7 n)
theorem D8_ok : ∀ n g a K, D8 n g a K → callM C X0 n g a K := fun n => orC_ok (laws_szTerm_ok hX n) (D7_ok hX n)
abbrev laws_szLiteral.a : List TS := [.a [.o (.int .i64), .o .bool, .o (.dat 192 (.prod (.int .i64) (.prod (.int .i64) (.prod (.int .i64) (.prod (.int .i64) (.prod (.int .i64) (.prod (.sl 150 (.int .u64)) (.sl 2 (.int .i64))))))))), .o (.dat 192 (.prod (.int .i64) (.prod (.int .i64) (.prod (.int .i64) (.prod (.int .i64) (.prod (.int .i64) (.prod (.sl 150 (.int .u64)) (.sl 2 (.int .i64)))))))))], .c (.o (.int .i64))]
def laws_szLiteral.u (n : Nat) (v : VA laws_szLiteral.a) (K : RES → Prop) : Prop := laws_szLiteral.c n v.1.1 v.1.2.1 v.1.2.2.1 v.1.2.2.2.1 v.2.1 (fun r0 => K ⟨.c (.int .i64 r0), []⟩)
theorem laws_szLiteral_ok : ∀ n v K, laws_szLiteral.u n v K → callM C X0 n 69 (fillA laws_szLiteral.a v) K :=
 call_tell hX (fn := Tryz.f69) (c := bodyOf Tryz.f69) (by kernel_rfl) (by kernel_rfl) (A := laws_szLiteral.a) (u := laws_szLiteral.u) (fun _ _ h => h) (call := D8) (lp := fun n => noL) (D8_ok hX) (fun n => noL_ok) (fun n v K => by kernel_rfl)
def D9 (n : Nat) : CallF := orC 69 laws_szLiteral.a (laws_szLiteral.u n) (D8 n)
theorem D9_ok : ∀ n g a K, D9 n g a K → callM C X0 n g a K := fun n => orC_ok (laws_szLiteral_ok hX n) (D8_ok hX n)
abbrev laws_szLiteralS.a : List TS := [.c (.o (.dat 109 (.prod (.int .i64) (.prod .bool (.prod (.sl 192 (.prod (.int .i64) (.prod (.int .i64) (.prod (.int .i64) (.prod (.int .i64) (.prod (.int .i64) (.prod (.sl 150 (.int .u64)) (.sl 2 (.int .i64))))))))) (.sl 192 (.prod (.int .i64) (.prod (.int .i64) (.prod (.int .i64) (.prod (.int .i64) (.prod (.int .i64) (.prod (.sl 150 (.int .u64)) (.sl 2 (.int .i64)))))))))))))), .c (.o (.int .i64))]
def laws_szLiteralS.u (n : Nat) (v : VA laws_szLiteralS.a) (K : RES → Prop) : Prop := laws_szLiteralS.c n v.1 v.2.1 (fun r0 => K ⟨.c (.int .i64 r0), []⟩)
abbrev laws_szLiteralS.l5.s : ST := ⟨[(0, .c (.o (.dat 109 (.prod (.int .i64) (.prod .bool (.prod (.sl 192 (.prod (.int .i64) (.prod (.int .i64) (.prod (.int .i64) (.prod (.int .i64) (.prod (.int .i64) (.prod (.sl 150 (.int .u64)) (.sl 2 (.int .i64))))))))) (.sl 192 (.prod (.int .i64) (.prod (.int .i64) (.prod (.int .i64) (.prod (.int .i64) (.prod (.int .i64) (.prod (.sl 150 (.int .u64)) (.sl 2 (.int .i64))))))))))))))), (1, .c (.o (.int .i64))), (5, .c (.o (.int .i64)))], [], [], [], []⟩
def laws_szLiteralS.l5.u (n : Nat) (v : laws_szLiteralS.l5.s.V) (K : X → St → Prop) : Prop := laws_szLiteralS.l5 n v.1.1 v.1.2.1 v.1.2.2.1 (fun y0 => K (.exit 0) ⟨[(1, .c (.int .i64 y0))], [], [], [], []⟩) (fun y0 => K .ret ⟨[(4, .c (.int .i64 y0))], [], [], [], []⟩)
theorem laws_szLiteralS.l5_ok : ∀ n v K, laws_szLiteralS.l5.u n v K → loopM C X0 n 24 5 (laws_szLiteralS.l5.s.fill v) K :=
 loop_tell hX (fn := Tryz.f24) (c := bodyOf Tryz.f24) (a := loopOf Tryz.f24 5) (li := liOf (C.fi 24).loops 5) (by kernel_rfl) (by kernel_rfl) (of_decide_eq_true rfl) (by kernel_rfl) (by kernel_rfl) (T := laws_szLiteralS.l5.s) (u := laws_szLiteralS.l5.u) (fun _ _ h => h) (call := D9) (lp := fun n => noL) (D9_ok hX) (fun n => noL_ok) (fun n v K => by kernel_rfl)
theorem laws_szLiteralS_ok : ∀ n v K, laws_szLiteralS.u n v K → callM C X0 n 24 (fillA laws_szLiteralS.a v) K :=
 call_tell hX (fn := Tryz.f24) (c := bodyOf Tryz.f24) (by kernel_rfl) (by kernel_rfl) (A := laws_szLiteralS.a) (u := laws_szLiteralS.u) (fun _ _ h => h) (call := D9) (lp := fun n => orL 5 laws_szLiteralS.l5.s (laws_szLiteralS.l5.u n) noL) (D9_ok hX) (fun n => (orL_ok (laws_szLiteralS.l5_ok hX n) noL_ok)) (fun n v K => by kernel_rfl)
def D10 (n : Nat) : CallF := orC 24 laws_szLiteralS.a (laws_szLiteralS.u n) (D9 n)
theorem D10_ok : ∀ n g a K, D10 n g a K → callM C X0 n g a K := fun n => orC_ok (laws_szLiteralS_ok hX n) (D9_ok hX n)
abbrev laws_szScope.a : List TS := [.a [.o (.int .i64), .o (.dat 109 (.prod (.int .i64) (.prod .bool (.prod (.sl 192 (.prod (.int .i64) (.prod (.int .i64) (.prod (.int .i64) (.prod (.int .i64) (.prod (.int .i64) (.prod (.sl 150 (.int .u64)) (.sl 2 (.int .i64))))))))) (.sl 192 (.prod (.int .i64) (.prod (.int .i64) (.prod (.int .i64) (.prod (.int .i64) (.prod (.int .i64) (.prod (.sl 150 (.int .u64)) (.sl 2 (.int .i64)))))))))))))], .c (.o (.int .i64))]
def laws_szScope.u (n : Nat) (v : VA laws_szScope.a) (K : RES → Prop) : Prop := laws_szScope.c n v.1.1 v.1.2.1 v.2.1 (fun r0 => K ⟨.c (.int .i64 r0), []⟩)
theorem laws_szScope_ok : ∀ n v K, laws_szScope.u n v K → callM C X0 n 123 (fillA laws_szScope.a v) K :=
 call_tell hX (fn := Tryz.f123) (c := bodyOf Tryz.f123) (by kernel_rfl) (by kernel_rfl) (A := laws_szScope.a) (u := laws_szScope.u) (fun _ _ h => h) (call := D10) (lp := fun n => noL) (D10_ok hX) (fun n => noL_ok) (fun n v K => by kernel_rfl)
def D11 (n : Nat) : CallF := orC 123 laws_szScope.a (laws_szScope.u n) (D10 n)
theorem D11_ok : ∀ n g a K, D11 n g a K → callM C X0 n g a K := fun n => orC_ok (laws_szScope_ok hX n) (D10_ok hX n)
abbrev laws_szScopeS.a : List TS := [.c (.o (.dat 160 (.prod (.int .i64) (.sl 109 (.prod (.int .i64) (.prod .bool (.prod (.sl 192 (.prod (.int .i64) (.prod (.int .i64) (.prod (.int .i64) (.prod (.int .i64) (.prod (.int .i64) (.prod (.sl 150 (.int .u64)) (.sl 2 (.int .i64))))))))) (.sl 192 (.prod (.int .i64) (.prod (.int .i64) (.prod (.int .i64) (.prod (.int .i64) (.prod (.int .i64) (.prod (.sl 150 (.int .u64)) (.sl 2 (.int .i64)))))))))))))))), .c (.o (.int .i64))]
def laws_szScopeS.u (n : Nat) (v : VA laws_szScopeS.a) (K : RES → Prop) : Prop := laws_szScopeS.c n v.1 v.2.1 (fun r0 => K ⟨.c (.int .i64 r0), []⟩)
abbrev laws_szScopeS.l5.s : ST := ⟨[(0, .c (.o (.dat 160 (.prod (.int .i64) (.sl 109 (.prod (.int .i64) (.prod .bool (.prod (.sl 192 (.prod (.int .i64) (.prod (.int .i64) (.prod (.int .i64) (.prod (.int .i64) (.prod (.int .i64) (.prod (.sl 150 (.int .u64)) (.sl 2 (.int .i64))))))))) (.sl 192 (.prod (.int .i64) (.prod (.int .i64) (.prod (.int .i64) (.prod (.int .i64) (.prod (.int .i64) (.prod (.sl 150 (.int .u64)) (.sl 2 (.int .i64))))))))))))))))), (1, .c (.o (.int .i64))), (5, .c (.o (.int .i64)))], [], [], [], []⟩
def laws_szScopeS.l5.u (n : Nat) (v : laws_szScopeS.l5.s.V) (K : X → St → Prop) : Prop := laws_szScopeS.l5 n v.1.1 v.1.2.1 v.1.2.2.1 (fun y0 => K (.exit 0) ⟨[(1, .c (.int .i64 y0))], [], [], [], []⟩) (fun y0 => K .ret ⟨[(4, .c (.int .i64 y0))], [], [], [], []⟩)
theorem laws_szScopeS.l5_ok : ∀ n v K, laws_szScopeS.l5.u n v K → loopM C X0 n 80 5 (laws_szScopeS.l5.s.fill v) K :=
 loop_tell hX (fn := Tryz.f80) (c := bodyOf Tryz.f80) (a := loopOf Tryz.f80 5) (li := liOf (C.fi 80).loops 5) (by kernel_rfl) (by kernel_rfl) (of_decide_eq_true rfl) (by kernel_rfl) (by kernel_rfl) (T := laws_szScopeS.l5.s) (u := laws_szScopeS.l5.u) (fun _ _ h => h) (call := D11) (lp := fun n => noL) (D11_ok hX) (fun n => noL_ok) (fun n v K => by kernel_rfl)
theorem laws_szScopeS_ok : ∀ n v K, laws_szScopeS.u n v K → callM C X0 n 80 (fillA laws_szScopeS.a v) K :=
 call_tell hX (fn := Tryz.f80) (c := bodyOf Tryz.f80) (by kernel_rfl) (by kernel_rfl) (A := laws_szScopeS.a) (u := laws_szScopeS.u) (fun _ _ h => h) (call := D11) (lp := fun n => orL 5 laws_szScopeS.l5.s (laws_szScopeS.l5.u n) noL) (D11_ok hX) (fun n => (orL_ok (laws_szScopeS.l5_ok hX n) noL_ok)) (fun n v K => by kernel_rfl)
def D12 (n : Nat) : CallF := orC 80 laws_szScopeS.a (laws_szScopeS.u n) (D11 n)
theorem D12_ok : ∀ n g a K, D12 n g a K → callM C X0 n g a K := fun n => orC_ok (laws_szScopeS_ok hX n) (D11_ok hX n)
abbrev laws_szSession.a : List TS := [.a [.o (.dat 74 (.prod .str (.int .i64))), .o (.dat 160 (.prod (.int .i64) (.sl 109 (.prod (.int .i64) (.prod .bool (.prod (.sl 192 (.prod (.int .i64) (.prod (.int .i64) (.prod (.int .i64) (.prod (.int .i64) (.prod (.int .i64) (.prod (.sl 150 (.int .u64)) (.sl 2 (.int .i64))))))))) (.sl 192 (.prod (.int .i64) (.prod (.int .i64) (.prod (.int .i64) (.prod (.int .i64) (.prod (.int .i64) (.prod (.sl 150 (.int .u64)) (.sl 2 (.int .i64))))))))))))))), .o (.int .i64)], .c (.o (.int .i64))]
def laws_szSession.u (n : Nat) (v : VA laws_szSession.a) (K : RES → Prop) : Prop := laws_szSession.c n v.1.1 v.1.2.1 v.1.2.2.1 v.2.1 (fun r0 => K ⟨.c (.int .i64 r0), []⟩)
theorem laws_szSession_ok : ∀ n v K, laws_szSession.u n v K → callM C X0 n 33 (fillA laws_szSession.a v) K :=
 call_tell hX (fn := Tryz.f33) (c := bodyOf Tryz.f33) (by kernel_rfl) (by kernel_rfl) (A := laws_szSession.a) (u := laws_szSession.u) (fun _ _ h => h) (call := D12) (lp := fun n => noL) (D12_ok hX) (fun n => noL_ok) (fun n v K => by kernel_rfl)
def D13 (n : Nat) : CallF := orC 33 laws_szSession.a (laws_szSession.u n) (D12 n)
theorem D13_ok : ∀ n g a K, D13 n g a K → callM C X0 n g a K := fun n => orC_ok (laws_szSession_ok hX n) (D12_ok hX n)
abbrev laws_toDecl.a : List TS := [.a [.o .str, .o (.int .i64)]]
def laws_toDecl.u (n : Nat) (v : VA laws_toDecl.a) (K : RES → Prop) : Prop := laws_toDecl.c n v.1.1 v.1.2.1 (fun r0 r1 => K ⟨.agg [.str r0, .int .i64 r1], []⟩)
theorem laws_toDecl_ok : ∀ n v K, laws_toDecl.u n v K → callM C X0 n 53 (fillA laws_toDecl.a v) K :=
 call_tell hX (fn := Tryz.f53) (c := bodyOf Tryz.f53) (by kernel_rfl) (by kernel_rfl) (A := laws_toDecl.a) (u := laws_toDecl.u) (fun _ _ h => h) (call := D13) (lp := fun n => noL) (D13_ok hX) (fun n => noL_ok) (fun n v K => by kernel_rfl)
def D14 (n : Nat) : CallF := orC 53 laws_toDecl.a (laws_toDecl.u n) (D13 n)
theorem D14_ok : ∀ n g a K, D14 n g a K → callM C X0 n g a K := fun n => orC_ok (laws_toDecl_ok hX n) (D13_ok hX n)
abbrev laws_toDeclS.a : List TS := [.c (.o (.dat 74 (.prod .str (.int .i64))))]
def laws_toDeclS.u (n : Nat) (v : VA laws_toDeclS.a) (K : RES → Prop) : Prop := laws_toDeclS.c n v.1 (fun r0 => K ⟨.c (.row ⟨95, .prod .str (.int .i64), r0, 99, none⟩), []⟩)
abbrev laws_toDeclS.l3.s : ST := ⟨[(0, .c (.o (.dat 74 (.prod .str (.int .i64))))), (3, .c (.o (.own 224))), (4, .c (.o (.int .i64)))], [⟨224, 95, .prod .str (.int .i64), 99⟩], [], [], []⟩
def laws_toDeclS.l3.u (n : Nat) (v : laws_toDeclS.l3.s.V) (K : X → St → Prop) : Prop := laws_toDeclS.l3 n v.1.1 v.1.2.2.1 v.2.1.1 (fun y0 => K (.exit 0) ⟨[(3, .c (.own 224))], [(224, ⟨95, .prod .str (.int .i64), y0, 99, none⟩)], [], [], []⟩)
theorem laws_toDeclS.l3_ok : ∀ n v K, laws_toDeclS.l3.u n v K → loopM C X0 n 13 3 (laws_toDeclS.l3.s.fill v) K :=
 loop_tell hX (fn := Tryz.f13) (c := bodyOf Tryz.f13) (a := loopOf Tryz.f13 3) (li := liOf (C.fi 13).loops 3) (by kernel_rfl) (by kernel_rfl) (of_decide_eq_true rfl) (by kernel_rfl) (by kernel_rfl) (T := laws_toDeclS.l3.s) (u := laws_toDeclS.l3.u) (fun _ _ h => h) (call := D14) (lp := fun n => noL) (D14_ok hX) (fun n => noL_ok) (fun n v K => by kernel_rfl)
theorem laws_toDeclS_ok : ∀ n v K, laws_toDeclS.u n v K → callM C X0 n 13 (fillA laws_toDeclS.a v) K :=
 call_tell hX (fn := Tryz.f13) (c := bodyOf Tryz.f13) (by kernel_rfl) (by kernel_rfl) (A := laws_toDeclS.a) (u := laws_toDeclS.u) (fun _ _ h => h) (call := D14) (lp := fun n => orL 3 laws_toDeclS.l3.s (laws_toDeclS.l3.u n) noL) (D14_ok hX) (fun n => (orL_ok (laws_toDeclS.l3_ok hX n) noL_ok)) (fun n v K => by kernel_rfl)
def D15 (n : Nat) : CallF := orC 13 laws_toDeclS.a (laws_toDeclS.u n) (D14 n)
theorem D15_ok : ∀ n g a K, D15 n g a K → callM C X0 n g a K := fun n => orC_ok (laws_toDeclS_ok hX n) (D14_ok hX n)
abbrev laws_toUint64S.a : List TS := [.c (.o (.dat 150 (.int .u64)))]
def laws_toUint64S.u (n : Nat) (v : VA laws_toUint64S.a) (K : RES → Prop) : Prop := laws_toUint64S.c n v.1 (fun r0 => K ⟨.c (.row ⟨150, .int .u64, r0, 99, none⟩), []⟩)
abbrev laws_toUint64S.l3.s : ST := ⟨[(0, .c (.o (.dat 150 (.int .u64)))), (3, .c (.o (.own 224))), (4, .c (.o (.int .i64)))], [⟨224, 150, .int .u64, 99⟩], [], [], []⟩
def laws_toUint64S.l3.u (n : Nat) (v : laws_toUint64S.l3.s.V) (K : X → St → Prop) : Prop := laws_toUint64S.l3 n v.1.1 v.1.2.2.1 v.2.1.1 (fun y0 => K (.exit 0) ⟨[(3, .c (.own 224))], [(224, ⟨150, .int .u64, y0, 99, none⟩)], [], [], []⟩)
theorem laws_toUint64S.l3_ok : ∀ n v K, laws_toUint64S.l3.u n v K → loopM C X0 n 111 3 (laws_toUint64S.l3.s.fill v) K :=
 loop_tell hX (fn := Tryz.f111) (c := bodyOf Tryz.f111) (a := loopOf Tryz.f111 3) (li := liOf (C.fi 111).loops 3) (by kernel_rfl) (by kernel_rfl) (of_decide_eq_true rfl) (by kernel_rfl) (by kernel_rfl) (T := laws_toUint64S.l3.s) (u := laws_toUint64S.l3.u) (fun _ _ h => h) (call := D15) (lp := fun n => noL) (D15_ok hX) (fun n => noL_ok) (fun n v K => by kernel_rfl)
theorem laws_toUint64S_ok : ∀ n v K, laws_toUint64S.u n v K → callM C X0 n 111 (fillA laws_toUint64S.a v) K :=
 call_tell hX (fn := Tryz.f111) (c := bodyOf Tryz.f111) (by kernel_rfl) (by kernel_rfl) (A := laws_toUint64S.a) (u := laws_toUint64S.u) (fun _ _ h => h) (call := D15) (lp := fun n => orL 3 laws_toUint64S.l3.s (laws_toUint64S.l3.u n) noL) (D15_ok hX) (fun n => (orL_ok (laws_toUint64S.l3_ok hX n) noL_ok)) (fun n v K => by kernel_rfl)
def D16 (n : Nat) : CallF := orC 111 laws_toUint64S.a (laws_toUint64S.u n) (D15 n)
theorem D16_ok : ∀ n g a K, D16 n g a K → callM C X0 n g a K := fun n => orC_ok (laws_toUint64S_ok hX n) (D15_ok hX n)
abbrev laws_toBits.a : List TS := [.a [.o (.int .i64), .o (.dat 150 (.int .u64))]]
def laws_toBits.u (n : Nat) (v : VA laws_toBits.a) (K : RES → Prop) : Prop := laws_toBits.c n v.1.1 v.1.2.1 (fun r0 r1 => K ⟨.agg [.int .i64 r0, .row ⟨150, .int .u64, r1, 99, none⟩], []⟩)
theorem laws_toBits_ok : ∀ n v K, laws_toBits.u n v K → callM C X0 n 55 (fillA laws_toBits.a v) K :=
 call_tell hX (fn := Tryz.f55) (c := bodyOf Tryz.f55) (by kernel_rfl) (by kernel_rfl) (A := laws_toBits.a) (u := laws_toBits.u) (fun _ _ h => h) (call := D16) (lp := fun n => noL) (D16_ok hX) (fun n => noL_ok) (fun n v K => by kernel_rfl)
def D17 (n : Nat) : CallF := orC 55 laws_toBits.a (laws_toBits.u n) (D16 n)
theorem D17_ok : ∀ n g a K, D17 n g a K → callM C X0 n g a K := fun n => orC_ok (laws_toBits_ok hX n) (D16_ok hX n)
abbrev laws_toInt64S.a : List TS := [.c (.o (.dat 2 (.int .i64)))]
def laws_toInt64S.u (n : Nat) (v : VA laws_toInt64S.a) (K : RES → Prop) : Prop := laws_toInt64S.c n v.1 (fun r0 => K ⟨.c (.row ⟨2, .int .i64, r0, 99, none⟩), []⟩)
abbrev laws_toInt64S.l3.s : ST := ⟨[(0, .c (.o (.dat 2 (.int .i64)))), (3, .c (.o (.own 224))), (4, .c (.o (.int .i64)))], [⟨224, 2, .int .i64, 99⟩], [], [], []⟩
def laws_toInt64S.l3.u (n : Nat) (v : laws_toInt64S.l3.s.V) (K : X → St → Prop) : Prop := laws_toInt64S.l3 n v.1.1 v.1.2.2.1 v.2.1.1 (fun y0 => K (.exit 0) ⟨[(3, .c (.own 224))], [(224, ⟨2, .int .i64, y0, 99, none⟩)], [], [], []⟩)
theorem laws_toInt64S.l3_ok : ∀ n v K, laws_toInt64S.l3.u n v K → loopM C X0 n 182 3 (laws_toInt64S.l3.s.fill v) K :=
 loop_tell hX (fn := Tryz.f182) (c := bodyOf Tryz.f182) (a := loopOf Tryz.f182 3) (li := liOf (C.fi 182).loops 3) (by kernel_rfl) (by kernel_rfl) (of_decide_eq_true rfl) (by kernel_rfl) (by kernel_rfl) (T := laws_toInt64S.l3.s) (u := laws_toInt64S.l3.u) (fun _ _ h => h) (call := D17) (lp := fun n => noL) (D17_ok hX) (fun n => noL_ok) (fun n v K => by kernel_rfl)
theorem laws_toInt64S_ok : ∀ n v K, laws_toInt64S.u n v K → callM C X0 n 182 (fillA laws_toInt64S.a v) K :=
 call_tell hX (fn := Tryz.f182) (c := bodyOf Tryz.f182) (by kernel_rfl) (by kernel_rfl) (A := laws_toInt64S.a) (u := laws_toInt64S.u) (fun _ _ h => h) (call := D17) (lp := fun n => orL 3 laws_toInt64S.l3.s (laws_toInt64S.l3.u n) noL) (D17_ok hX) (fun n => (orL_ok (laws_toInt64S.l3_ok hX n) noL_ok)) (fun n v K => by kernel_rfl)
def D18 (n : Nat) : CallF := orC 182 laws_toInt64S.a (laws_toInt64S.u n) (D17 n)
theorem D18_ok : ∀ n g a K, D18 n g a K → callM C X0 n g a K := fun n => orC_ok (laws_toInt64S_ok hX n) (D17_ok hX n)
abbrev laws_toTNode.a : List TS := [.a [.o (.int .i64), .o (.int .i64), .o (.int .i64), .o (.int .i64), .o (.int .i64), .o (.dat 150 (.int .u64)), .o (.dat 2 (.int .i64))]]
def laws_toTNode.u (n : Nat) (v : VA laws_toTNode.a) (K : RES → Prop) : Prop := laws_toTNode.c n v.1.1 v.1.2.1 v.1.2.2.1 v.1.2.2.2.1 v.1.2.2.2.2.1 v.1.2.2.2.2.2.1 v.1.2.2.2.2.2.2.1 (fun r0 r1 r2 r3 r4 r5 r6 => K ⟨.agg [.int .i64 r0, .int .i64 r1, .int .i64 r2, .int .i64 r3, .int .i64 r4, .row ⟨150, .int .u64, r5, 99, none⟩, .row ⟨2, .int .i64, r6, 99, none⟩], []⟩)
theorem laws_toTNode_ok : ∀ n v K, laws_toTNode.u n v K → callM C X0 n 168 (fillA laws_toTNode.a v) K :=
 call_tell hX (fn := Tryz.f168) (c := bodyOf Tryz.f168) (by kernel_rfl) (by kernel_rfl) (A := laws_toTNode.a) (u := laws_toTNode.u) (fun _ _ h => h) (call := D18) (lp := fun n => noL) (D18_ok hX) (fun n => noL_ok) (fun n v K => by kernel_rfl)
def D19 (n : Nat) : CallF := orC 168 laws_toTNode.a (laws_toTNode.u n) (D18 n)
theorem D19_ok : ∀ n g a K, D19 n g a K → callM C X0 n g a K := fun n => orC_ok (laws_toTNode_ok hX n) (D18_ok hX n)
abbrev laws_toTNodeS.a : List TS := [.c (.o (.dat 192 (.prod (.int .i64) (.prod (.int .i64) (.prod (.int .i64) (.prod (.int .i64) (.prod (.int .i64) (.prod (.sl 150 (.int .u64)) (.sl 2 (.int .i64))))))))))]
def laws_toTNodeS.u (n : Nat) (v : VA laws_toTNodeS.a) (K : RES → Prop) : Prop := laws_toTNodeS.c n v.1 (fun r0 => K ⟨.c (.row ⟨145, .prod (.int .i64) (.prod (.int .i64) (.prod (.int .i64) (.prod (.int .i64) (.prod (.int .i64) (.prod (.sl 150 (.int .u64)) (.sl 2 (.int .i64))))))), r0, 99, none⟩), []⟩)
abbrev laws_toTNodeS.l3.s : ST := ⟨[(0, .c (.o (.dat 192 (.prod (.int .i64) (.prod (.int .i64) (.prod (.int .i64) (.prod (.int .i64) (.prod (.int .i64) (.prod (.sl 150 (.int .u64)) (.sl 2 (.int .i64))))))))))), (3, .c (.o (.own 224))), (4, .c (.o (.int .i64)))], [⟨224, 145, .prod (.int .i64) (.prod (.int .i64) (.prod (.int .i64) (.prod (.int .i64) (.prod (.int .i64) (.prod (.sl 150 (.int .u64)) (.sl 2 (.int .i64))))))), 99⟩], [], [], []⟩
def laws_toTNodeS.l3.u (n : Nat) (v : laws_toTNodeS.l3.s.V) (K : X → St → Prop) : Prop := laws_toTNodeS.l3 n v.1.1 v.1.2.2.1 v.2.1.1 (fun y0 => K (.exit 0) ⟨[(3, .c (.own 224))], [(224, ⟨145, .prod (.int .i64) (.prod (.int .i64) (.prod (.int .i64) (.prod (.int .i64) (.prod (.int .i64) (.prod (.sl 150 (.int .u64)) (.sl 2 (.int .i64))))))), y0, 99, none⟩)], [], [], []⟩)
theorem laws_toTNodeS.l3_ok : ∀ n v K, laws_toTNodeS.l3.u n v K → loopM C X0 n 149 3 (laws_toTNodeS.l3.s.fill v) K :=
 loop_tell hX (fn := Tryz.f149) (c := bodyOf Tryz.f149) (a := loopOf Tryz.f149 3) (li := liOf (C.fi 149).loops 3) (by kernel_rfl) (by kernel_rfl) (of_decide_eq_true rfl) (by kernel_rfl) (by kernel_rfl) (T := laws_toTNodeS.l3.s) (u := laws_toTNodeS.l3.u) (fun _ _ h => h) (call := D19) (lp := fun n => noL) (D19_ok hX) (fun n => noL_ok) (fun n v K => by kernel_rfl)
theorem laws_toTNodeS_ok : ∀ n v K, laws_toTNodeS.u n v K → callM C X0 n 149 (fillA laws_toTNodeS.a v) K :=
 call_tell hX (fn := Tryz.f149) (c := bodyOf Tryz.f149) (by kernel_rfl) (by kernel_rfl) (A := laws_toTNodeS.a) (u := laws_toTNodeS.u) (fun _ _ h => h) (call := D19) (lp := fun n => orL 3 laws_toTNodeS.l3.s (laws_toTNodeS.l3.u n) noL) (D19_ok hX) (fun n => (orL_ok (laws_toTNodeS.l3_ok hX n) noL_ok)) (fun n v K => by kernel_rfl)
def D20 (n : Nat) : CallF := orC 149 laws_toTNodeS.a (laws_toTNodeS.u n) (D19 n)
theorem D20_ok : ∀ n g a K, D20 n g a K → callM C X0 n g a K := fun n => orC_ok (laws_toTNodeS_ok hX n) (D19_ok hX n)
abbrev laws_toTerm.a : List TS := [.a [.o (.dat 192 (.prod (.int .i64) (.prod (.int .i64) (.prod (.int .i64) (.prod (.int .i64) (.prod (.int .i64) (.prod (.sl 150 (.int .u64)) (.sl 2 (.int .i64)))))))))]]
def laws_toTerm.u (n : Nat) (v : VA laws_toTerm.a) (K : RES → Prop) : Prop := laws_toTerm.c n v.1.1 (fun r0 => K ⟨.agg [.row ⟨145, .prod (.int .i64) (.prod (.int .i64) (.prod (.int .i64) (.prod (.int .i64) (.prod (.int .i64) (.prod (.sl 150 (.int .u64)) (.sl 2 (.int .i64))))))), r0, 99, none⟩], []⟩)
theorem laws_toTerm_ok : ∀ n v K, laws_toTerm.u n v K → callM C X0 n 110 (fillA laws_toTerm.a v) K :=
 call_tell hX (fn := Tryz.f110) (c := bodyOf Tryz.f110) (by kernel_rfl) (by kernel_rfl) (A := laws_toTerm.a) (u := laws_toTerm.u) (fun _ _ h => h) (call := D20) (lp := fun n => noL) (D20_ok hX) (fun n => noL_ok) (fun n v K => by kernel_rfl)
def D21 (n : Nat) : CallF := orC 110 laws_toTerm.a (laws_toTerm.u n) (D20 n)
theorem D21_ok : ∀ n g a K, D21 n g a K → callM C X0 n g a K := fun n => orC_ok (laws_toTerm_ok hX n) (D20_ok hX n)
abbrev laws_toLiteral.a : List TS := [.a [.o (.int .i64), .o .bool, .o (.dat 192 (.prod (.int .i64) (.prod (.int .i64) (.prod (.int .i64) (.prod (.int .i64) (.prod (.int .i64) (.prod (.sl 150 (.int .u64)) (.sl 2 (.int .i64))))))))), .o (.dat 192 (.prod (.int .i64) (.prod (.int .i64) (.prod (.int .i64) (.prod (.int .i64) (.prod (.int .i64) (.prod (.sl 150 (.int .u64)) (.sl 2 (.int .i64)))))))))]]
def laws_toLiteral.u (n : Nat) (v : VA laws_toLiteral.a) (K : RES → Prop) : Prop := laws_toLiteral.c n v.1.1 v.1.2.1 v.1.2.2.1 v.1.2.2.2.1 (fun r0 r1 r2 r3 => K ⟨.agg [.int .i64 r0, .bool r1, .row ⟨145, .prod (.int .i64) (.prod (.int .i64) (.prod (.int .i64) (.prod (.int .i64) (.prod (.int .i64) (.prod (.sl 150 (.int .u64)) (.sl 2 (.int .i64))))))), r2, 99, none⟩, .row ⟨145, .prod (.int .i64) (.prod (.int .i64) (.prod (.int .i64) (.prod (.int .i64) (.prod (.int .i64) (.prod (.sl 150 (.int .u64)) (.sl 2 (.int .i64))))))), r3, 99, none⟩], []⟩)
theorem laws_toLiteral_ok : ∀ n v K, laws_toLiteral.u n v K → callM C X0 n 72 (fillA laws_toLiteral.a v) K :=
 call_tell hX (fn := Tryz.f72) (c := bodyOf Tryz.f72) (by kernel_rfl) (by kernel_rfl) (A := laws_toLiteral.a) (u := laws_toLiteral.u) (fun _ _ h => h) (call := D21) (lp := fun n => noL) (D21_ok hX) (fun n => noL_ok) (fun n v K => by kernel_rfl)
def D22 (n : Nat) : CallF := orC 72 laws_toLiteral.a (laws_toLiteral.u n) (D21 n)
theorem D22_ok : ∀ n g a K, D22 n g a K → callM C X0 n g a K := fun n => orC_ok (laws_toLiteral_ok hX n) (D21_ok hX n)
abbrev laws_toLiteralS.a : List TS := [.c (.o (.dat 109 (.prod (.int .i64) (.prod .bool (.prod (.sl 192 (.prod (.int .i64) (.prod (.int .i64) (.prod (.int .i64) (.prod (.int .i64) (.prod (.int .i64) (.prod (.sl 150 (.int .u64)) (.sl 2 (.int .i64))))))))) (.sl 192 (.prod (.int .i64) (.prod (.int .i64) (.prod (.int .i64) (.prod (.int .i64) (.prod (.int .i64) (.prod (.sl 150 (.int .u64)) (.sl 2 (.int .i64))))))))))))))]
def laws_toLiteralS.u (n : Nat) (v : VA laws_toLiteralS.a) (K : RES → Prop) : Prop := laws_toLiteralS.c n v.1 (fun r0 => K ⟨.c (.row ⟨114, .prod (.int .i64) (.prod .bool (.prod (.sl 145 (.prod (.int .i64) (.prod (.int .i64) (.prod (.int .i64) (.prod (.int .i64) (.prod (.int .i64) (.prod (.sl 150 (.int .u64)) (.sl 2 (.int .i64))))))))) (.sl 145 (.prod (.int .i64) (.prod (.int .i64) (.prod (.int .i64) (.prod (.int .i64) (.prod (.int .i64) (.prod (.sl 150 (.int .u64)) (.sl 2 (.int .i64))))))))))), r0, 99, none⟩), []⟩)
abbrev laws_toLiteralS.l3.s : ST := ⟨[(0, .c (.o (.dat 109 (.prod (.int .i64) (.prod .bool (.prod (.sl 192 (.prod (.int .i64) (.prod (.int .i64) (.prod (.int .i64) (.prod (.int .i64) (.prod (.int .i64) (.prod (.sl 150 (.int .u64)) (.sl 2 (.int .i64))))))))) (.sl 192 (.prod (.int .i64) (.prod (.int .i64) (.prod (.int .i64) (.prod (.int .i64) (.prod (.int .i64) (.prod (.sl 150 (.int .u64)) (.sl 2 (.int .i64))))))))))))))), (3, .c (.o (.own 224))), (4, .c (.o (.int .i64)))], [⟨224, 114, .prod (.int .i64) (.prod .bool (.prod (.sl 145 (.prod (.int .i64) (.prod (.int .i64) (.prod (.int .i64) (.prod (.int .i64) (.prod (.int .i64) (.prod (.sl 150 (.int .u64)) (.sl 2 (.int .i64))))))))) (.sl 145 (.prod (.int .i64) (.prod (.int .i64) (.prod (.int .i64) (.prod (.int .i64) (.prod (.int .i64) (.prod (.sl 150 (.int .u64)) (.sl 2 (.int .i64))))))))))), 99⟩], [], [], []⟩
def laws_toLiteralS.l3.u (n : Nat) (v : laws_toLiteralS.l3.s.V) (K : X → St → Prop) : Prop := laws_toLiteralS.l3 n v.1.1 v.1.2.2.1 v.2.1.1 (fun y0 => K (.exit 0) ⟨[(3, .c (.own 224))], [(224, ⟨114, .prod (.int .i64) (.prod .bool (.prod (.sl 145 (.prod (.int .i64) (.prod (.int .i64) (.prod (.int .i64) (.prod (.int .i64) (.prod (.int .i64) (.prod (.sl 150 (.int .u64)) (.sl 2 (.int .i64))))))))) (.sl 145 (.prod (.int .i64) (.prod (.int .i64) (.prod (.int .i64) (.prod (.int .i64) (.prod (.int .i64) (.prod (.sl 150 (.int .u64)) (.sl 2 (.int .i64))))))))))), y0, 99, none⟩)], [], [], []⟩)
theorem laws_toLiteralS.l3_ok : ∀ n v K, laws_toLiteralS.l3.u n v K → loopM C X0 n 26 3 (laws_toLiteralS.l3.s.fill v) K :=
 loop_tell hX (fn := Tryz.f26) (c := bodyOf Tryz.f26) (a := loopOf Tryz.f26 3) (li := liOf (C.fi 26).loops 3) (by kernel_rfl) (by kernel_rfl) (of_decide_eq_true rfl) (by kernel_rfl) (by kernel_rfl) (T := laws_toLiteralS.l3.s) (u := laws_toLiteralS.l3.u) (fun _ _ h => h) (call := D22) (lp := fun n => noL) (D22_ok hX) (fun n => noL_ok) (fun n v K => by kernel_rfl)
theorem laws_toLiteralS_ok : ∀ n v K, laws_toLiteralS.u n v K → callM C X0 n 26 (fillA laws_toLiteralS.a v) K :=
 call_tell hX (fn := Tryz.f26) (c := bodyOf Tryz.f26) (by kernel_rfl) (by kernel_rfl) (A := laws_toLiteralS.a) (u := laws_toLiteralS.u) (fun _ _ h => h) (call := D22) (lp := fun n => orL 3 laws_toLiteralS.l3.s (laws_toLiteralS.l3.u n) noL) (D22_ok hX) (fun n => (orL_ok (laws_toLiteralS.l3_ok hX n) noL_ok)) (fun n v K => by kernel_rfl)
def D23 (n : Nat) : CallF := orC 26 laws_toLiteralS.a (laws_toLiteralS.u n) (D22 n)
theorem D23_ok : ∀ n g a K, D23 n g a K → callM C X0 n g a K := fun n => orC_ok (laws_toLiteralS_ok hX n) (D22_ok hX n)
abbrev laws_toScope.a : List TS := [.a [.o (.int .i64), .o (.dat 109 (.prod (.int .i64) (.prod .bool (.prod (.sl 192 (.prod (.int .i64) (.prod (.int .i64) (.prod (.int .i64) (.prod (.int .i64) (.prod (.int .i64) (.prod (.sl 150 (.int .u64)) (.sl 2 (.int .i64))))))))) (.sl 192 (.prod (.int .i64) (.prod (.int .i64) (.prod (.int .i64) (.prod (.int .i64) (.prod (.int .i64) (.prod (.sl 150 (.int .u64)) (.sl 2 (.int .i64)))))))))))))]]
def laws_toScope.u (n : Nat) (v : VA laws_toScope.a) (K : RES → Prop) : Prop := laws_toScope.c n v.1.1 v.1.2.1 (fun r0 r1 => K ⟨.agg [.int .i64 r0, .row ⟨114, .prod (.int .i64) (.prod .bool (.prod (.sl 145 (.prod (.int .i64) (.prod (.int .i64) (.prod (.int .i64) (.prod (.int .i64) (.prod (.int .i64) (.prod (.sl 150 (.int .u64)) (.sl 2 (.int .i64))))))))) (.sl 145 (.prod (.int .i64) (.prod (.int .i64) (.prod (.int .i64) (.prod (.int .i64) (.prod (.int .i64) (.prod (.sl 150 (.int .u64)) (.sl 2 (.int .i64))))))))))), r1, 99, none⟩], []⟩)
theorem laws_toScope_ok : ∀ n v K, laws_toScope.u n v K → callM C X0 n 125 (fillA laws_toScope.a v) K :=
 call_tell hX (fn := Tryz.f125) (c := bodyOf Tryz.f125) (by kernel_rfl) (by kernel_rfl) (A := laws_toScope.a) (u := laws_toScope.u) (fun _ _ h => h) (call := D23) (lp := fun n => noL) (D23_ok hX) (fun n => noL_ok) (fun n v K => by kernel_rfl)
def D24 (n : Nat) : CallF := orC 125 laws_toScope.a (laws_toScope.u n) (D23 n)
theorem D24_ok : ∀ n g a K, D24 n g a K → callM C X0 n g a K := fun n => orC_ok (laws_toScope_ok hX n) (D23_ok hX n)
abbrev laws_toScopeS.a : List TS := [.c (.o (.dat 160 (.prod (.int .i64) (.sl 109 (.prod (.int .i64) (.prod .bool (.prod (.sl 192 (.prod (.int .i64) (.prod (.int .i64) (.prod (.int .i64) (.prod (.int .i64) (.prod (.int .i64) (.prod (.sl 150 (.int .u64)) (.sl 2 (.int .i64))))))))) (.sl 192 (.prod (.int .i64) (.prod (.int .i64) (.prod (.int .i64) (.prod (.int .i64) (.prod (.int .i64) (.prod (.sl 150 (.int .u64)) (.sl 2 (.int .i64))))))))))))))))]
def laws_toScopeS.u (n : Nat) (v : VA laws_toScopeS.a) (K : RES → Prop) : Prop := laws_toScopeS.c n v.1 (fun r0 => K ⟨.c (.row ⟨126, .prod (.int .i64) (.sl 114 (.prod (.int .i64) (.prod .bool (.prod (.sl 145 (.prod (.int .i64) (.prod (.int .i64) (.prod (.int .i64) (.prod (.int .i64) (.prod (.int .i64) (.prod (.sl 150 (.int .u64)) (.sl 2 (.int .i64))))))))) (.sl 145 (.prod (.int .i64) (.prod (.int .i64) (.prod (.int .i64) (.prod (.int .i64) (.prod (.int .i64) (.prod (.sl 150 (.int .u64)) (.sl 2 (.int .i64))))))))))))), r0, 99, none⟩), []⟩)
abbrev laws_toScopeS.l3.s : ST := ⟨[(0, .c (.o (.dat 160 (.prod (.int .i64) (.sl 109 (.prod (.int .i64) (.prod .bool (.prod (.sl 192 (.prod (.int .i64) (.prod (.int .i64) (.prod (.int .i64) (.prod (.int .i64) (.prod (.int .i64) (.prod (.sl 150 (.int .u64)) (.sl 2 (.int .i64))))))))) (.sl 192 (.prod (.int .i64) (.prod (.int .i64) (.prod (.int .i64) (.prod (.int .i64) (.prod (.int .i64) (.prod (.sl 150 (.int .u64)) (.sl 2 (.int .i64))))))))))))))))), (3, .c (.o (.own 224))), (4, .c (.o (.int .i64)))], [⟨224, 126, .prod (.int .i64) (.sl 114 (.prod (.int .i64) (.prod .bool (.prod (.sl 145 (.prod (.int .i64) (.prod (.int .i64) (.prod (.int .i64) (.prod (.int .i64) (.prod (.int .i64) (.prod (.sl 150 (.int .u64)) (.sl 2 (.int .i64))))))))) (.sl 145 (.prod (.int .i64) (.prod (.int .i64) (.prod (.int .i64) (.prod (.int .i64) (.prod (.int .i64) (.prod (.sl 150 (.int .u64)) (.sl 2 (.int .i64))))))))))))), 99⟩], [], [], []⟩
def laws_toScopeS.l3.u (n : Nat) (v : laws_toScopeS.l3.s.V) (K : X → St → Prop) : Prop := laws_toScopeS.l3 n v.1.1 v.1.2.2.1 v.2.1.1 (fun y0 => K (.exit 0) ⟨[(3, .c (.own 224))], [(224, ⟨126, .prod (.int .i64) (.sl 114 (.prod (.int .i64) (.prod .bool (.prod (.sl 145 (.prod (.int .i64) (.prod (.int .i64) (.prod (.int .i64) (.prod (.int .i64) (.prod (.int .i64) (.prod (.sl 150 (.int .u64)) (.sl 2 (.int .i64))))))))) (.sl 145 (.prod (.int .i64) (.prod (.int .i64) (.prod (.int .i64) (.prod (.int .i64) (.prod (.int .i64) (.prod (.sl 150 (.int .u64)) (.sl 2 (.int .i64))))))))))))), y0, 99, none⟩)], [], [], []⟩)
theorem laws_toScopeS.l3_ok : ∀ n v K, laws_toScopeS.l3.u n v K → loopM C X0 n 83 3 (laws_toScopeS.l3.s.fill v) K :=
 loop_tell hX (fn := Tryz.f83) (c := bodyOf Tryz.f83) (a := loopOf Tryz.f83 3) (li := liOf (C.fi 83).loops 3) (by kernel_rfl) (by kernel_rfl) (of_decide_eq_true rfl) (by kernel_rfl) (by kernel_rfl) (T := laws_toScopeS.l3.s) (u := laws_toScopeS.l3.u) (fun _ _ h => h) (call := D24) (lp := fun n => noL) (D24_ok hX) (fun n => noL_ok) (fun n v K => by kernel_rfl)
theorem laws_toScopeS_ok : ∀ n v K, laws_toScopeS.u n v K → callM C X0 n 83 (fillA laws_toScopeS.a v) K :=
 call_tell hX (fn := Tryz.f83) (c := bodyOf Tryz.f83) (by kernel_rfl) (by kernel_rfl) (A := laws_toScopeS.a) (u := laws_toScopeS.u) (fun _ _ h => h) (call := D24) (lp := fun n => orL 3 laws_toScopeS.l3.s (laws_toScopeS.l3.u n) noL) (D24_ok hX) (fun n => (orL_ok (laws_toScopeS.l3_ok hX n) noL_ok)) (fun n v K => by kernel_rfl)
def D25 (n : Nat) : CallF := orC 83 laws_toScopeS.a (laws_toScopeS.u n) (D24 n)
theorem D25_ok : ∀ n g a K, D25 n g a K → callM C X0 n g a K := fun n => orC_ok (laws_toScopeS_ok hX n) (D24_ok hX n)
abbrev laws_toSession.a : List TS := [.a [.o (.dat 74 (.prod .str (.int .i64))), .o (.dat 160 (.prod (.int .i64) (.sl 109 (.prod (.int .i64) (.prod .bool (.prod (.sl 192 (.prod (.int .i64) (.prod (.int .i64) (.prod (.int .i64) (.prod (.int .i64) (.prod (.int .i64) (.prod (.sl 150 (.int .u64)) (.sl 2 (.int .i64))))))))) (.sl 192 (.prod (.int .i64) (.prod (.int .i64) (.prod (.int .i64) (.prod (.int .i64) (.prod (.int .i64) (.prod (.sl 150 (.int .u64)) (.sl 2 (.int .i64))))))))))))))), .o (.int .i64)]]
def laws_toSession.u (n : Nat) (v : VA laws_toSession.a) (K : RES → Prop) : Prop := laws_toSession.c n v.1.1 v.1.2.1 v.1.2.2.1 (fun r0 r1 r2 => K ⟨.agg [.row ⟨95, .prod .str (.int .i64), r0, 99, none⟩, .row ⟨126, .prod (.int .i64) (.sl 114 (.prod (.int .i64) (.prod .bool (.prod (.sl 145 (.prod (.int .i64) (.prod (.int .i64) (.prod (.int .i64) (.prod (.int .i64) (.prod (.int .i64) (.prod (.sl 150 (.int .u64)) (.sl 2 (.int .i64))))))))) (.sl 145 (.prod (.int .i64) (.prod (.int .i64) (.prod (.int .i64) (.prod (.int .i64) (.prod (.int .i64) (.prod (.sl 150 (.int .u64)) (.sl 2 (.int .i64))))))))))))), r1, 99, none⟩, .int .i64 r2], []⟩)
theorem laws_toSession_ok : ∀ n v K, laws_toSession.u n v K → callM C X0 n 35 (fillA laws_toSession.a v) K :=
 call_tell hX (fn := Tryz.f35) (c := bodyOf Tryz.f35) (by kernel_rfl) (by kernel_rfl) (A := laws_toSession.a) (u := laws_toSession.u) (fun _ _ h => h) (call := D25) (lp := fun n => noL) (D25_ok hX) (fun n => noL_ok) (fun n v K => by kernel_rfl)
def D26 (n : Nat) : CallF := orC 35 laws_toSession.a (laws_toSession.u n) (D25 n)
theorem D26_ok : ∀ n g a K, D26 n g a K → callM C X0 n g a K := fun n => orC_ok (laws_toSession_ok hX n) (D25_ok hX n)
abbrev spec_l1Digit.a : List TS := [.c (.o (.int .u8))]
def spec_l1Digit.u (n : Nat) (v : VA spec_l1Digit.a) (K : RES → Prop) : Prop := spec_l1Digit.c n v.1 (fun r0 => K ⟨.c (.bool r0), []⟩)
theorem spec_l1Digit_ok : ∀ n v K, spec_l1Digit.u n v K → callM C X0 n 132 (fillA spec_l1Digit.a v) K :=
 call_tell hX (fn := Tryz.f132) (c := bodyOf Tryz.f132) (by kernel_rfl) (by kernel_rfl) (A := spec_l1Digit.a) (u := spec_l1Digit.u) (fun _ _ h => h) (call := D26) (lp := fun n => noL) (D26_ok hX) (fun n => noL_ok) (fun n v K => by kernel_rfl)
def D27 (n : Nat) : CallF := orC 132 spec_l1Digit.a (spec_l1Digit.u n) (D26 n)
theorem D27_ok : ∀ n g a K, D27 n g a K → callM C X0 n g a K := fun n => orC_ok (spec_l1Digit_ok hX n) (D26_ok hX n)
abbrev spec_l1Name.a : List TS := [.c (.o .str)]
def spec_l1Name.u (n : Nat) (v : VA spec_l1Name.a) (K : RES → Prop) : Prop := spec_l1Name.c n v.1 (fun r0 => K ⟨.c (.bool r0), []⟩)
abbrev spec_l1Name.l4.s : ST := ⟨[(0, .c (.o .str)), (3, .c (.o (.int .i64)))], [], [], [], []⟩
def spec_l1Name.l4.u (n : Nat) (v : spec_l1Name.l4.s.V) (K : X → St → Prop) : Prop := spec_l1Name.l4 n v.1.1 v.1.2.1 (K (.exit 0) ⟨[], [], [], [], []⟩) (fun y0 => K .ret ⟨[(2, .c (.bool y0))], [], [], [], []⟩)
theorem spec_l1Name.l4_ok : ∀ n v K, spec_l1Name.l4.u n v K → loopM C X0 n 90 4 (spec_l1Name.l4.s.fill v) K :=
 loop_tell hX (fn := Tryz.f90) (c := bodyOf Tryz.f90) (a := loopOf Tryz.f90 4) (li := liOf (C.fi 90).loops 4) (by kernel_rfl) (by kernel_rfl) (of_decide_eq_true rfl) (by kernel_rfl) (by kernel_rfl) (T := spec_l1Name.l4.s) (u := spec_l1Name.l4.u) (fun _ _ h => h) (call := D27) (lp := fun n => noL) (D27_ok hX) (fun n => noL_ok) (fun n v K => by kernel_rfl)
theorem spec_l1Name_ok : ∀ n v K, spec_l1Name.u n v K → callM C X0 n 90 (fillA spec_l1Name.a v) K :=
 call_tell hX (fn := Tryz.f90) (c := bodyOf Tryz.f90) (by kernel_rfl) (by kernel_rfl) (A := spec_l1Name.a) (u := spec_l1Name.u) (fun _ _ h => h) (call := D27) (lp := fun n => orL 4 spec_l1Name.l4.s (spec_l1Name.l4.u n) noL) (D27_ok hX) (fun n => (orL_ok (spec_l1Name.l4_ok hX n) noL_ok)) (fun n v K => by kernel_rfl)
def D28 (n : Nat) : CallF := orC 90 spec_l1Name.a (spec_l1Name.u n) (D27 n)
theorem D28_ok : ∀ n g a K, D28 n g a K → callM C X0 n g a K := fun n => orC_ok (spec_l1Name_ok hX n) (D27_ok hX n)
abbrev spec_l1In.a : List TS := [.c (.o (.int .i64)), .c (.o (.int .i64)), .c (.o (.int .i64))]
def spec_l1In.u (n : Nat) (v : VA spec_l1In.a) (K : RES → Prop) : Prop := spec_l1In.c n v.1 v.2.1 v.2.2.1 (fun r0 => K ⟨.c (.bool r0), []⟩)
theorem spec_l1In_ok : ∀ n v K, spec_l1In.u n v K → callM C X0 n 92 (fillA spec_l1In.a v) K :=
 call_tell hX (fn := Tryz.f92) (c := bodyOf Tryz.f92) (by kernel_rfl) (by kernel_rfl) (A := spec_l1In.a) (u := spec_l1In.u) (fun _ _ h => h) (call := D28) (lp := fun n => noL) (D28_ok hX) (fun n => noL_ok) (fun n v K => by kernel_rfl)
def D29 (n : Nat) : CallF := orC 92 spec_l1In.a (spec_l1In.u n) (D28 n)
theorem D29_ok : ∀ n g a K, D29 n g a K → callM C X0 n g a K := fun n => orC_ok (spec_l1In_ok hX n) (D28_ok hX n)
abbrev spec_DeclsOk.a : List TS := [.c (.o (.dat 95 (.prod .str (.int .i64))))]
def spec_DeclsOk.u (n : Nat) (v : VA spec_DeclsOk.a) (K : RES → Prop) : Prop := spec_DeclsOk.c n v.1 (fun r0 => K ⟨.c (.bool r0), []⟩)
abbrev spec_DeclsOk.l10.s : ST := ⟨[(0, .c (.o (.dat 95 (.prod .str (.int .i64))))), (3, .c (.o (.int .i64))), (4, .c (.o (.int .i64))), (5, .c (.o (.int .i64)))], [], [], [], []⟩
def spec_DeclsOk.l10.u (n : Nat) (v : spec_DeclsOk.l10.s.V) (K : X → St → Prop) : Prop := spec_DeclsOk.l10 n v.1.1 v.1.2.1 v.1.2.2.1 v.1.2.2.2.1 (fun y0 y1 y2 => K (.exit 2) ⟨[(0, .c (.dat 95 (.prod .str (.int .i64)) y0)), (3, .c (.int .i64 y1)), (4, .c (.int .i64 y2))], [], [], [], []⟩) (fun y0 => K .ret ⟨[(2, .c (.bool y0))], [], [], [], []⟩)
abbrev spec_DeclsOk.l5.s : ST := ⟨[(0, .c (.o (.dat 95 (.prod .str (.int .i64))))), (3, .c (.o (.int .i64))), (4, .c (.o (.int .i64)))], [], [], [], []⟩
def spec_DeclsOk.l5.u (n : Nat) (v : spec_DeclsOk.l5.s.V) (K : X → St → Prop) : Prop := spec_DeclsOk.l5 n v.1.1 v.1.2.1 v.1.2.2.1 (fun y0 => K (.exit 0) ⟨[(3, .c (.int .i64 y0))], [], [], [], []⟩) (fun y0 => K .ret ⟨[(2, .c (.bool y0))], [], [], [], []⟩)
theorem spec_DeclsOk.l10_ok : ∀ n v K, spec_DeclsOk.l10.u n v K → loopM C X0 n 93 10 (spec_DeclsOk.l10.s.fill v) K :=
 loop_tell hX (fn := Tryz.f93) (c := bodyOf Tryz.f93) (a := loopOf Tryz.f93 10) (li := liOf (C.fi 93).loops 10) (by kernel_rfl) (by kernel_rfl) (of_decide_eq_true rfl) (by kernel_rfl) (by kernel_rfl) (T := spec_DeclsOk.l10.s) (u := spec_DeclsOk.l10.u) (fun _ _ h => h) (call := D29) (lp := fun n => noL) (D29_ok hX) (fun n => noL_ok) (fun n v K => by kernel_rfl)
theorem spec_DeclsOk.l5_ok : ∀ n v K, spec_DeclsOk.l5.u n v K → loopM C X0 n 93 5 (spec_DeclsOk.l5.s.fill v) K :=
 loop_tell hX (fn := Tryz.f93) (c := bodyOf Tryz.f93) (a := loopOf Tryz.f93 5) (li := liOf (C.fi 93).loops 5) (by kernel_rfl) (by kernel_rfl) (of_decide_eq_true rfl) (by kernel_rfl) (by kernel_rfl) (T := spec_DeclsOk.l5.s) (u := spec_DeclsOk.l5.u) (fun _ _ h => h) (call := D29) (lp := fun n => orL 10 spec_DeclsOk.l10.s (spec_DeclsOk.l10.u n) noL) (D29_ok hX) (fun n => (orL_ok (spec_DeclsOk.l10_ok hX n) noL_ok)) (fun n v K => by kernel_rfl)
theorem spec_DeclsOk_ok : ∀ n v K, spec_DeclsOk.u n v K → callM C X0 n 93 (fillA spec_DeclsOk.a v) K :=
 call_tell hX (fn := Tryz.f93) (c := bodyOf Tryz.f93) (by kernel_rfl) (by kernel_rfl) (A := spec_DeclsOk.a) (u := spec_DeclsOk.u) (fun _ _ h => h) (call := D29) (lp := fun n => orL 5 spec_DeclsOk.l5.s (spec_DeclsOk.l5.u n) noL) (D29_ok hX) (fun n => (orL_ok (spec_DeclsOk.l5_ok hX n) noL_ok)) (fun n v K => by kernel_rfl)
def D30 (n : Nat) : CallF := orC 93 spec_DeclsOk.a (spec_DeclsOk.u n) (D29 n)
theorem D30_ok : ∀ n g a K, D30 n g a K → callM C X0 n g a K := fun n => orC_ok (spec_DeclsOk_ok hX n) (D29_ok hX n)
abbrev spec_l3NoBits.a : List TS := [.a [.o (.int .i64), .o (.dat 150 (.int .u64))]]
def spec_l3NoBits.u (n : Nat) (v : VA spec_l3NoBits.a) (K : RES → Prop) : Prop := spec_l3NoBits.c n v.1.1 v.1.2.1 (fun r0 => K ⟨.c (.bool r0), []⟩)
theorem spec_l3NoBits_ok : ∀ n v K, spec_l3NoBits.u n v K → callM C X0 n 180 (fillA spec_l3NoBits.a v) K :=
 call_tell hX (fn := Tryz.f180) (c := bodyOf Tryz.f180) (by kernel_rfl) (by kernel_rfl) (A := spec_l3NoBits.a) (u := spec_l3NoBits.u) (fun _ _ h => h) (call := D30) (lp := fun n => noL) (D30_ok hX) (fun n => noL_ok) (fun n v K => by kernel_rfl)
def D31 (n : Nat) : CallF := orC 180 spec_l3NoBits.a (spec_l3NoBits.u n) (D30 n)
theorem D31_ok : ∀ n g a K, D31 n g a K → callM C X0 n g a K := fun n => orC_ok (spec_l3NoBits_ok hX n) (D30_ok hX n)
abbrev spec_l3One.a : List TS := [.c (.o (.int .i64))]
def spec_l3One.u (n : Nat) (v : VA spec_l3One.a) (K : RES → Prop) : Prop := spec_l3One.c n v.1 (fun r0 => K ⟨.c (.bool r0), []⟩)
theorem spec_l3One_ok : ∀ n v K, spec_l3One.u n v K → callM C X0 n 181 (fillA spec_l3One.a v) K :=
 call_tell hX (fn := Tryz.f181) (c := bodyOf Tryz.f181) (by kernel_rfl) (by kernel_rfl) (A := spec_l3One.a) (u := spec_l3One.u) (fun _ _ h => h) (call := D31) (lp := fun n => noL) (D31_ok hX) (fun n => noL_ok) (fun n v K => by kernel_rfl)
def D32 (n : Nat) : CallF := orC 181 spec_l3One.a (spec_l3One.u n) (D31 n)
theorem D32_ok : ∀ n g a K, D32 n g a K → callM C X0 n g a K := fun n => orC_ok (spec_l3One_ok hX n) (D31_ok hX n)
abbrev spec_l1Bit.a : List TS := [.a [.o (.int .i64), .o (.dat 150 (.int .u64))], .c (.o (.int .i64))]
def spec_l1Bit.u (n : Nat) (v : VA spec_l1Bit.a) (K : RES → Prop) : Prop := spec_l1Bit.c n v.1.1 v.1.2.1 v.2.1 (fun r0 => K ⟨.c (.int .u8 r0), []⟩)
theorem spec_l1Bit_ok : ∀ n v K, spec_l1Bit.u n v K → callM C X0 n 142 (fillA spec_l1Bit.a v) K :=
 call_tell hX (fn := Tryz.f142) (c := bodyOf Tryz.f142) (by kernel_rfl) (by kernel_rfl) (A := spec_l1Bit.a) (u := spec_l1Bit.u) (fun _ _ h => h) (call := D32) (lp := fun n => noL) (D32_ok hX) (fun n => noL_ok) (fun n v K => by kernel_rfl)
def D33 (n : Nat) : CallF := orC 142 spec_l1Bit.a (spec_l1Bit.u n) (D32 n)
theorem D33_ok : ∀ n g a K, D33 n g a K → callM C X0 n g a K := fun n => orC_ok (spec_l1Bit_ok hX n) (D32_ok hX n)
abbrev spec_BitsOk.a : List TS := [.a [.o (.int .i64), .o (.dat 150 (.int .u64))]]
def spec_BitsOk.u (n : Nat) (v : VA spec_BitsOk.a) (K : RES → Prop) : Prop := spec_BitsOk.c n v.1.1 v.1.2.1 (fun r0 => K ⟨.c (.bool r0), []⟩)
abbrev spec_BitsOk.l4.s : ST := ⟨[(1, .c (.o (.pbox 1 0))), (3, .c (.o (.int .i64)))], [], [⟨1, 92, [.o (.int .i64), .o (.dat 150 (.int .u64))], false⟩], [], []⟩
def spec_BitsOk.l4.u (n : Nat) (v : spec_BitsOk.l4.s.V) (K : X → St → Prop) : Prop := spec_BitsOk.l4 n v.2.2.1.1 v.2.2.1.2.1 v.1.2.1 (K (.exit 0) ⟨[], [], [], [], []⟩) (fun y0 => K .ret ⟨[(2, .c (.bool y0))], [], [], [], []⟩)
theorem spec_BitsOk.l4_ok : ∀ n v K, spec_BitsOk.l4.u n v K → loopM C X0 n 107 4 (spec_BitsOk.l4.s.fill v) K :=
 loop_tell hX (fn := Tryz.f107) (c := bodyOf Tryz.f107) (a := loopOf Tryz.f107 4) (li := liOf (C.fi 107).loops 4) (by kernel_rfl) (by kernel_rfl) (of_decide_eq_true rfl) (by kernel_rfl) (by kernel_rfl) (T := spec_BitsOk.l4.s) (u := spec_BitsOk.l4.u) (fun _ _ h => h) (call := D33) (lp := fun n => noL) (D33_ok hX) (fun n => noL_ok) (fun n v K => by kernel_rfl)
theorem spec_BitsOk_ok : ∀ n v K, spec_BitsOk.u n v K → callM C X0 n 107 (fillA spec_BitsOk.a v) K :=
 call_tell hX (fn := Tryz.f107) (c := bodyOf Tryz.f107) (by kernel_rfl) (by kernel_rfl) (A := spec_BitsOk.a) (u := spec_BitsOk.u) (fun _ _ h => h) (call := D33) (lp := fun n => orL 4 spec_BitsOk.l4.s (spec_BitsOk.l4.u n) noL) (D33_ok hX) (fun n => (orL_ok (spec_BitsOk.l4_ok hX n) noL_ok)) (fun n v K => by kernel_rfl)
def D34 (n : Nat) : CallF := orC 107 spec_BitsOk.a (spec_BitsOk.u n) (D33 n)
theorem D34_ok : ∀ n g a K, D34 n g a K → callM C X0 n g a K := fun n => orC_ok (spec_BitsOk_ok hX n) (D33_ok hX n)
abbrev spec_l3Form.a : List TS := [.c (.o (.dat 95 (.prod .str (.int .i64)))), .a [.o (.int .i64), .o (.int .i64), .o (.int .i64), .o (.int .i64), .o (.int .i64), .o (.dat 150 (.int .u64)), .o (.dat 2 (.int .i64))], .c (.o (.int .i64))]
def spec_l3Form.u (n : Nat) (v : VA spec_l3Form.a) (K : RES → Prop) : Prop := spec_l3Form.c n v.1 v.2.1.1 v.2.1.2.1 v.2.1.2.2.1 v.2.1.2.2.2.1 v.2.1.2.2.2.2.1 v.2.1.2.2.2.2.2.1 v.2.1.2.2.2.2.2.2.1 v.2.2.1 (fun r0 => K ⟨.c (.bool r0), []⟩)
abbrev spec_l3Form.l2.s : ST := ⟨[(0, .c (.o (.dat 95 (.prod .str (.int .i64))))), (2, .c (.o (.int .i64))), (4, .c (.o (.pbox 4 0))), (7, .c (.o (.int .i64)))], [], [⟨4, 145, [.o (.int .i64), .o (.int .i64), .o (.int .i64), .o (.int .i64), .o (.int .i64), .o (.dat 150 (.int .u64)), .o (.dat 2 (.int .i64))], false⟩], [], []⟩
def spec_l3Form.l2.u (n : Nat) (v : spec_l3Form.l2.s.V) (K : X → St → Prop) : Prop := spec_l3Form.l2 n v.1.1 v.1.2.1 v.2.2.1.1 v.2.2.1.2.1 v.2.2.1.2.2.1 v.2.2.1.2.2.2.1 v.2.2.1.2.2.2.2.1 v.2.2.1.2.2.2.2.2.1 v.2.2.1.2.2.2.2.2.2.1 v.1.2.2.2.1 (fun y0 y1 y2 y3 y4 y5 y6 y7 => K (.exit 0) ⟨[(0, .c (.dat 95 (.prod .str (.int .i64)) y0)), (4, .c (.pbox 4 0))], [], [(4, ⟨145, [.int .i64 y1, .int .i64 y2, .int .i64 y3, .int .i64 y4, .int .i64 y5, .dat 150 (.int .u64) y6, .dat 2 (.int .i64) y7], false⟩)], [], []⟩) (fun y0 => K .ret ⟨[(6, .c (.bool y0))], [], [], [], []⟩)
abbrev spec_l3Form.q7.s : ST := ⟨[(0, .c (.o (.dat 95 (.prod .str (.int .i64))))), (4, .c (.o (.pbox 4 0))), (63, .c (.o .bool))], [], [⟨4, 145, [.o (.int .i64), .o (.int .i64), .o (.int .i64), .o (.int .i64), .o (.int .i64), .o (.dat 150 (.int .u64)), .o (.dat 2 (.int .i64))], false⟩], [], []⟩
def spec_l3Form.q7.u (n : Nat) (v : spec_l3Form.q7.s.V) (K : X → St → Prop) : Prop := spec_l3Form.q7 n v.1.1 v.1.2.2.1 v.2.2.1.1 v.2.2.1.2.1 v.2.2.1.2.2.1 v.2.2.1.2.2.2.1 v.2.2.1.2.2.2.2.1 v.2.2.1.2.2.2.2.2.1 v.2.2.1.2.2.2.2.2.2.1 (fun y0 => K .ret ⟨[(6, .c (.bool y0))], [], [], [], []⟩) (fun y0 y1 y2 y3 y4 y5 y6 y7 => K .normal ⟨[(0, .c (.dat 95 (.prod .str (.int .i64)) y0)), (4, .c (.pbox 4 0))], [], [(4, ⟨145, [.int .i64 y1, .int .i64 y2, .int .i64 y3, .int .i64 y4, .int .i64 y5, .dat 150 (.int .u64) y6, .dat 2 (.int .i64) y7], false⟩)], [], []⟩)
abbrev spec_l3Form.q8.s : ST := ⟨[(0, .c (.o (.dat 95 (.prod .str (.int .i64))))), (4, .c (.o (.pbox 4 0)))], [], [⟨4, 145, [.o (.int .i64), .o (.int .i64), .o (.int .i64), .o (.int .i64), .o (.int .i64), .o (.dat 150 (.int .u64)), .o (.dat 2 (.int .i64))], false⟩], [], []⟩
def spec_l3Form.q8.u (n : Nat) (v : spec_l3Form.q8.s.V) (K : X → St → Prop) : Prop := spec_l3Form.q8 n v.1.1 v.2.2.1.1 v.2.2.1.2.1 v.2.2.1.2.2.1 v.2.2.1.2.2.2.1 v.2.2.1.2.2.2.2.1 v.2.2.1.2.2.2.2.2.1 v.2.2.1.2.2.2.2.2.2.1 (fun y0 => K .ret ⟨[(6, .c (.bool y0))], [], [], [], []⟩)
theorem spec_l3Form.l2_ok : ∀ n v K, spec_l3Form.l2.u n v K → loopM C X0 n 165 2 (spec_l3Form.l2.s.fill v) K :=
 loop_tell hX (fn := Tryz.f165) (c := bodyOf Tryz.f165) (a := loopOf Tryz.f165 2) (li := liOf (C.fi 165).loops 2) (by kernel_rfl) (by kernel_rfl) (of_decide_eq_true rfl) (by kernel_rfl) (by kernel_rfl) (T := spec_l3Form.l2.s) (u := spec_l3Form.l2.u) (fun _ _ h => h) (call := D34) (lp := fun n => noL) (D34_ok hX) (fun n => noL_ok) (fun n v K => by kernel_rfl)
theorem spec_l3Form.q7_ok : ∀ n v K, spec_l3Form.q7.u n v K → loopM C X0 n 165 1000007 (spec_l3Form.q7.s.fill v) K :=
 cut_tell hX (fn := Tryz.f165) (c := bodyOf Tryz.f165) (a := cutOf Tryz.f165 7) (li := liOf (C.fi 165).loops 1000007) (by kernel_rfl) (by kernel_rfl) (of_decide_eq_true rfl) (by kernel_rfl) (by kernel_rfl) (T := spec_l3Form.q7.s) (u := spec_l3Form.q7.u) (fun _ _ h => h) (call := D34) (lp := fun n => noL) (D34_ok hX) (fun n => noL_ok) (fun n v K => by kernel_rfl)
theorem spec_l3Form.q8_ok : ∀ n v K, spec_l3Form.q8.u n v K → loopM C X0 n 165 1000008 (spec_l3Form.q8.s.fill v) K :=
 cut_tell hX (fn := Tryz.f165) (c := bodyOf Tryz.f165) (a := cutOf Tryz.f165 8) (li := liOf (C.fi 165).loops 1000008) (by kernel_rfl) (by kernel_rfl) (of_decide_eq_true rfl) (by kernel_rfl) (by kernel_rfl) (T := spec_l3Form.q8.s) (u := spec_l3Form.q8.u) (fun _ _ h => h) (call := D34) (lp := fun n => noL) (D34_ok hX) (fun n => noL_ok) (fun n v K => by kernel_rfl)
theorem spec_l3Form_ok : ∀ n v K, spec_l3Form.u n v K → callM C X0 n 165 (fillA spec_l3Form.a v) K :=
 call_tell hX (fn := Tryz.f165) (c := bodyOf Tryz.f165) (by kernel_rfl) (by kernel_rfl) (A := spec_l3Form.a) (u := spec_l3Form.u) (fun _ _ h => h) (call := D34) (lp := fun n => orL 2 spec_l3Form.l2.s (spec_l3Form.l2.u n) (orL 1000007 spec_l3Form.q7.s (spec_l3Form.q7.u n) (orL 1000008 spec_l3Form.q8.s (spec_l3Form.q8.u n) noL))) (D34_ok hX) (fun n => (orL_ok (spec_l3Form.l2_ok hX n) (orL_ok (spec_l3Form.q7_ok hX n) (orL_ok (spec_l3Form.q8_ok hX n) noL_ok)))) (fun n v K => by kernel_rfl)
def D35 (n : Nat) : CallF := orC 165 spec_l3Form.a (spec_l3Form.u n) (D34 n)
theorem D35_ok : ∀ n g a K, D35 n g a K → callM C X0 n g a K := fun n => orC_ok (spec_l3Form_ok hX n) (D34_ok hX n)
abbrev spec_l3Wide.a : List TS := [.c (.o (.dat 95 (.prod .str (.int .i64)))), .a [.o (.int .i64), .o (.int .i64), .o (.int .i64), .o (.int .i64), .o (.int .i64), .o (.dat 150 (.int .u64)), .o (.dat 2 (.int .i64))], .c (.o (.dat 2 (.int .i64)))]
def spec_l3Wide.u (n : Nat) (v : VA spec_l3Wide.a) (K : RES → Prop) : Prop := spec_l3Wide.c n v.1 v.2.1.1 v.2.1.2.1 v.2.1.2.2.1 v.2.1.2.2.2.1 v.2.1.2.2.2.2.1 v.2.1.2.2.2.2.2.1 v.2.1.2.2.2.2.2.2.1 v.2.2.1 (fun r0 => K ⟨.c (.int .i64 r0), []⟩)
abbrev spec_l3Wide.l3.s : ST := ⟨[(0, .c (.o (.dat 95 (.prod .str (.int .i64))))), (2, .c (.o (.dat 2 (.int .i64)))), (4, .c (.o (.pbox 4 0))), (7, .c (.o (.int .i64))), (8, .c (.o (.int .i64)))], [], [⟨4, 145, [.o (.int .i64), .o (.int .i64), .o (.int .i64), .o (.int .i64), .o (.int .i64), .o (.dat 150 (.int .u64)), .o (.dat 2 (.int .i64))], false⟩], [], []⟩
def spec_l3Wide.l3.u (n : Nat) (v : spec_l3Wide.l3.s.V) (K : X → St → Prop) : Prop := spec_l3Wide.l3 n v.1.1 v.1.2.1 v.2.2.1.1 v.2.2.1.2.1 v.2.2.1.2.2.1 v.2.2.1.2.2.2.1 v.2.2.1.2.2.2.2.1 v.2.2.1.2.2.2.2.2.1 v.2.2.1.2.2.2.2.2.2.1 v.1.2.2.2.1 v.1.2.2.2.2.1 (fun y0 y1 y2 y3 y4 y5 y6 y7 y8 => K (.exit 0) ⟨[(0, .c (.dat 95 (.prod .str (.int .i64)) y0)), (4, .c (.pbox 4 0)), (7, .c (.int .i64 y1))], [], [(4, ⟨145, [.int .i64 y2, .int .i64 y3, .int .i64 y4, .int .i64 y5, .int .i64 y6, .dat 150 (.int .u64) y7, .dat 2 (.int .i64) y8], false⟩)], [], []⟩)
theorem spec_l3Wide.l3_ok : ∀ n v K, spec_l3Wide.l3.u n v K → loopM C X0 n 166 3 (spec_l3Wide.l3.s.fill v) K :=
 loop_tell hX (fn := Tryz.f166) (c := bodyOf Tryz.f166) (a := loopOf Tryz.f166 3) (li := liOf (C.fi 166).loops 3) (by kernel_rfl) (by kernel_rfl) (of_decide_eq_true rfl) (by kernel_rfl) (by kernel_rfl) (T := spec_l3Wide.l3.s) (u := spec_l3Wide.l3.u) (fun _ _ h => h) (call := D35) (lp := fun n => noL) (D35_ok hX) (fun n => noL_ok) (fun n v K => by kernel_rfl)
theorem spec_l3Wide_ok : ∀ n v K, spec_l3Wide.u n v K → callM C X0 n 166 (fillA spec_l3Wide.a v) K :=
 call_tell hX (fn := Tryz.f166) (c := bodyOf Tryz.f166) (by kernel_rfl) (by kernel_rfl) (A := spec_l3Wide.a) (u := spec_l3Wide.u) (fun _ _ h => h) (call := D35) (lp := fun n => orL 3 spec_l3Wide.l3.s (spec_l3Wide.l3.u n) noL) (D35_ok hX) (fun n => (orL_ok (spec_l3Wide.l3_ok hX n) noL_ok)) (fun n v K => by kernel_rfl)
def D36 (n : Nat) : CallF := orC 166 spec_l3Wide.a (spec_l3Wide.u n) (D35 n)
theorem D36_ok : ∀ n g a K, D36 n g a K → callM C X0 n g a K := fun n => orC_ok (spec_l3Wide_ok hX n) (D35_ok hX n)
abbrev spec_l3Widths.a : List TS := [.c (.o (.dat 95 (.prod .str (.int .i64)))), .a [.o (.dat 145 (.prod (.int .i64) (.prod (.int .i64) (.prod (.int .i64) (.prod (.int .i64) (.prod (.int .i64) (.prod (.sl 150 (.int .u64)) (.sl 2 (.int .i64)))))))))]]
def spec_l3Widths.u (n : Nat) (v : VA spec_l3Widths.a) (K : RES → Prop) : Prop := spec_l3Widths.c n v.1 v.2.1.1 (fun r0 => K ⟨.c (.row ⟨2, .int .i64, r0, 99, none⟩), []⟩)
abbrev spec_l3Widths.l16.s : ST := ⟨[(0, .c (.o (.dat 95 (.prod .str (.int .i64))))), (3, .c (.o (.pbox 3 0))), (5, .c (.o (.own 384))), (6, .c (.o (.own 2112))), (7, .c (.o (.own 1056))), (8, .c (.o (.int .i64))), (10, .c (.o (.int .i64)))], [⟨384, 2, .int .i64, 99⟩, ⟨1056, 4, .bool, 99⟩, ⟨2112, 2, .int .i64, 99⟩], [⟨3, 89, [.o (.dat 145 (.prod (.int .i64) (.prod (.int .i64) (.prod (.int .i64) (.prod (.int .i64) (.prod (.int .i64) (.prod (.sl 150 (.int .u64)) (.sl 2 (.int .i64)))))))))], false⟩], [], []⟩
def spec_l3Widths.l16.u (n : Nat) (v : spec_l3Widths.l16.s.V) (K : X → St → Prop) : Prop := spec_l3Widths.l16 n v.1.1 v.1.2.2.2.2.2.1 v.2.1.1 v.2.1.2.2.1 v.2.2.1.1 v.1.2.2.2.2.2.2.1 v.2.1.2.1 (fun y0 y1 y2 y3 y4 y5 => K (.exit 2) ⟨[(0, .c (.dat 95 (.prod .str (.int .i64)) y0)), (3, .c (.pbox 3 0)), (5, .c (.own 384)), (6, .c (.own 2112)), (7, .c (.own 1056)), (8, .c (.int .i64 y1))], [(384, ⟨2, .int .i64, y2, 99, none⟩), (1056, ⟨4, .bool, y3, 99, none⟩), (2112, ⟨2, .int .i64, y4, 99, none⟩)], [(3, ⟨89, [.dat 145 (.prod (.int .i64) (.prod (.int .i64) (.prod (.int .i64) (.prod (.int .i64) (.prod (.int .i64) (.prod (.sl 150 (.int .u64)) (.sl 2 (.int .i64)))))))) y5], false⟩)], [], []⟩)
abbrev spec_l3Widths.l7.s : ST := ⟨[(0, .c (.o (.dat 95 (.prod .str (.int .i64))))), (3, .c (.o (.pbox 3 0))), (5, .c (.o (.own 384))), (6, .c (.o (.own 192))), (7, .c (.o (.own 1056))), (8, .c (.o (.int .i64)))], [⟨192, 2, .int .i64, 99⟩, ⟨384, 2, .int .i64, 99⟩, ⟨1056, 4, .bool, 99⟩], [⟨3, 89, [.o (.dat 145 (.prod (.int .i64) (.prod (.int .i64) (.prod (.int .i64) (.prod (.int .i64) (.prod (.int .i64) (.prod (.sl 150 (.int .u64)) (.sl 2 (.int .i64)))))))))], false⟩], [], []⟩
def spec_l3Widths.l7.u (n : Nat) (v : spec_l3Widths.l7.s.V) (K : X → St → Prop) : Prop := spec_l3Widths.l7 n v.1.1 v.1.2.2.2.2.2.1 v.2.1.1 v.2.1.2.1 v.2.1.2.2.1 v.2.2.1.1 (fun y0 y1 y2 => K (.exit 0) ⟨[(5, .c (.own 384)), (6, .c (.own 192)), (7, .c (.own 1056))], [(192, ⟨2, .int .i64, y0, 99, none⟩), (384, ⟨2, .int .i64, y1, 99, none⟩), (1056, ⟨4, .bool, y2, 99, none⟩)], [], [], []⟩) (fun y0 => K .ret ⟨[(4, .c (.own 384))], [(384, ⟨2, .int .i64, y0, 99, none⟩)], [], [], []⟩)
abbrev spec_l3Widths.l20.s : ST := ⟨[(5, .c (.o (.own 384))), (6, .c (.o (.own 192))), (7, .c (.o (.own 1056))), (11, .c (.o (.int .i64)))], [⟨192, 2, .int .i64, 99⟩, ⟨384, 2, .int .i64, 99⟩, ⟨1056, 4, .bool, 99⟩], [], [], []⟩
def spec_l3Widths.l20.u (n : Nat) (v : spec_l3Widths.l20.s.V) (K : X → St → Prop) : Prop := spec_l3Widths.l20 n v.2.1.1 v.2.1.2.1 v.2.1.2.2.1 v.1.2.2.2.1 (fun y0 => K (.exit 4) ⟨[(6, .c (.own 192))], [(192, ⟨2, .int .i64, y0, 99, none⟩)], [], [], []⟩) (fun y0 => K .ret ⟨[(4, .c (.own 384))], [(384, ⟨2, .int .i64, y0, 99, none⟩)], [], [], []⟩)
theorem spec_l3Widths.l16_ok : ∀ n v K, spec_l3Widths.l16.u n v K → loopM C X0 n 143 16 (spec_l3Widths.l16.s.fill v) K :=
 loop_tell hX (fn := Tryz.f143) (c := bodyOf Tryz.f143) (a := loopOf Tryz.f143 16) (li := liOf (C.fi 143).loops 16) (by kernel_rfl) (by kernel_rfl) (of_decide_eq_true rfl) (by kernel_rfl) (by kernel_rfl) (T := spec_l3Widths.l16.s) (u := spec_l3Widths.l16.u) (fun _ _ h => h) (call := D36) (lp := fun n => noL) (D36_ok hX) (fun n => noL_ok) (fun n v K => by kernel_rfl)
theorem spec_l3Widths.l7_ok : ∀ n v K, spec_l3Widths.l7.u n v K → loopM C X0 n 143 7 (spec_l3Widths.l7.s.fill v) K :=
 loop_tell hX (fn := Tryz.f143) (c := bodyOf Tryz.f143) (a := loopOf Tryz.f143 7) (li := liOf (C.fi 143).loops 7) (by kernel_rfl) (by kernel_rfl) (of_decide_eq_true rfl) (by kernel_rfl) (by kernel_rfl) (T := spec_l3Widths.l7.s) (u := spec_l3Widths.l7.u) (fun _ _ h => h) (call := D36) (lp := fun n => orL 16 spec_l3Widths.l16.s (spec_l3Widths.l16.u n) noL) (D36_ok hX) (fun n => (orL_ok (spec_l3Widths.l16_ok hX n) noL_ok)) (fun n v K => by kernel_rfl)
theorem spec_l3Widths.l20_ok : ∀ n v K, spec_l3Widths.l20.u n v K → loopM C X0 n 143 20 (spec_l3Widths.l20.s.fill v) K :=
 loop_tell hX (fn := Tryz.f143) (c := bodyOf Tryz.f143) (a := loopOf Tryz.f143 20) (li := liOf (C.fi 143).loops 20) (by kernel_rfl) (by kernel_rfl) (of_decide_eq_true rfl) (by kernel_rfl) (by kernel_rfl) (T := spec_l3Widths.l20.s) (u := spec_l3Widths.l20.u) (fun _ _ h => h) (call := D36) (lp := fun n => noL) (D36_ok hX) (fun n => noL_ok) (fun n v K => by kernel_rfl)
theorem spec_l3Widths_ok : ∀ n v K, spec_l3Widths.u n v K → callM C X0 n 143 (fillA spec_l3Widths.a v) K :=
 call_tell hX (fn := Tryz.f143) (c := bodyOf Tryz.f143) (by kernel_rfl) (by kernel_rfl) (A := spec_l3Widths.a) (u := spec_l3Widths.u) (fun _ _ h => h) (call := D36) (lp := fun n => orL 7 spec_l3Widths.l7.s (spec_l3Widths.l7.u n) (orL 20 spec_l3Widths.l20.s (spec_l3Widths.l20.u n) noL)) (D36_ok hX) (fun n => (orL_ok (spec_l3Widths.l7_ok hX n) (orL_ok (spec_l3Widths.l20_ok hX n) noL_ok))) (fun n v K => by kernel_rfl)
def D37 (n : Nat) : CallF := orC 143 spec_l3Widths.a (spec_l3Widths.u n) (D36 n)
theorem D37_ok : ∀ n g a K, D37 n g a K → callM C X0 n g a K := fun n => orC_ok (spec_l3Widths_ok hX n) (D36_ok hX n)
end
end Go.Vsi
end

section
set_option linter.unusedVariables false
namespace Go.Vsi
open Go.Proofs
section
variable {X0 : CallF} (hX : CallF.Mono X0)
include hX
abbrev spec_WidthOf.a : List TS := [.c (.o (.dat 95 (.prod .str (.int .i64)))), .a [.o (.dat 145 (.prod (.int .i64) (.prod (.int .i64) (.prod (.int .i64) (.prod (.int .i64) (.prod (.int .i64) (.prod (.sl 150 (.int .u64)) (.sl 2 (.int .i64)))))))))]]
def spec_WidthOf.u (n : Nat) (v : VA spec_WidthOf.a) (K : RES → Prop) : Prop := spec_WidthOf.c n v.1 v.2.1.1 (fun r0 => K ⟨.c (.int .i64 r0), []⟩)
theorem spec_WidthOf_ok : ∀ n v K, spec_WidthOf.u n v K → callM C X0 n 108 (fillA spec_WidthOf.a v) K :=
 call_tell hX (fn := Tryz.f108) (c := bodyOf Tryz.f108) (by kernel_rfl) (by kernel_rfl) (A := spec_WidthOf.a) (u := spec_WidthOf.u) (fun _ _ h => h) (call := D37) (lp := fun n => noL) (D37_ok hX) (fun n => noL_ok) (fun n v K => by kernel_rfl)
def D38 (n : Nat) : CallF := orC 108 spec_WidthOf.a (spec_WidthOf.u n) (D37 n)
theorem D38_ok : ∀ n g a K, D38 n g a K → callM C X0 n g a K := fun n => orC_ok (spec_WidthOf_ok hX n) (D37_ok hX n)
abbrev spec_LiteralsOk.a : List TS := [.c (.o (.dat 95 (.prod .str (.int .i64)))), .c (.o (.dat 114 (.prod (.int .i64) (.prod .bool (.prod (.sl 145 (.prod (.int .i64) (.prod (.int .i64) (.prod (.int .i64) (.prod (.int .i64) (.prod (.int .i64) (.prod (.sl 150 (.int .u64)) (.sl 2 (.int .i64))))))))) (.sl 145 (.prod (.int .i64) (.prod (.int .i64) (.prod (.int .i64) (.prod (.int .i64) (.prod (.int .i64) (.prod (.sl 150 (.int .u64)) (.sl 2 (.int .i64))))))))))))))]
def spec_LiteralsOk.u (n : Nat) (v : VA spec_LiteralsOk.a) (K : RES → Prop) : Prop := spec_LiteralsOk.c n v.1 v.2.1 (fun r0 => K ⟨.c (.bool r0), []⟩)
abbrev spec_LiteralsOk.l4.s : ST := ⟨[(0, .c (.o (.dat 95 (.prod .str (.int .i64))))), (1, .c (.o (.dat 114 (.prod (.int .i64) (.prod .bool (.prod (.sl 145 (.prod (.int .i64) (.prod (.int .i64) (.prod (.int .i64) (.prod (.int .i64) (.prod (.int .i64) (.prod (.sl 150 (.int .u64)) (.sl 2 (.int .i64))))))))) (.sl 145 (.prod (.int .i64) (.prod (.int .i64) (.prod (.int .i64) (.prod (.int .i64) (.prod (.int .i64) (.prod (.sl 150 (.int .u64)) (.sl 2 (.int .i64))))))))))))))), (5, .c (.o (.int .i64)))], [], [], [], []⟩
def spec_LiteralsOk.l4.u (n : Nat) (v : spec_LiteralsOk.l4.s.V) (K : X → St → Prop) : Prop := spec_LiteralsOk.l4 n v.1.1 v.1.2.1 v.1.2.2.1 (K (.exit 0) ⟨[], [], [], [], []⟩) (fun y0 => K .ret ⟨[(4, .c (.bool y0))], [], [], [], []⟩)
theorem spec_LiteralsOk.l4_ok : ∀ n v K, spec_LiteralsOk.l4.u n v K → loopM C X0 n 70 4 (spec_LiteralsOk.l4.s.fill v) K :=
 loop_tell hX (fn := Tryz.f70) (c := bodyOf Tryz.f70) (a := loopOf Tryz.f70 4) (li := liOf (C.fi 70).loops 4) (by kernel_rfl) (by kernel_rfl) (of_decide_eq_true rfl) (by kernel_rfl) (by kernel_rfl) (T := spec_LiteralsOk.l4.s) (u := spec_LiteralsOk.l4.u) (fun _ _ h => h) (call := D38) (lp := fun n => noL) (D38_ok hX) (fun n => noL_ok) (fun n v K => by kernel_rfl)
theorem spec_LiteralsOk_ok : ∀ n v K, spec_LiteralsOk.u n v K → callM C X0 n 70 (fillA spec_LiteralsOk.a v) K :=
 call_tell hX (fn := Tryz.f70) (c := bodyOf Tryz.f70) (by kernel_rfl) (by kernel_rfl) (A := spec_LiteralsOk.a) (u := spec_LiteralsOk.u) (fun _ _ h => h) (call := D38) (lp := fun n => orL 4 spec_LiteralsOk.l4.s (spec_LiteralsOk.l4.u n) noL) (D38_ok hX) (fun n => (orL_ok (spec_LiteralsOk.l4_ok hX n) noL_ok)) (fun n v K => by kernel_rfl)
def D39 (n : Nat) : CallF := orC 70 spec_LiteralsOk.a (spec_LiteralsOk.u n) (D38 n)
theorem D39_ok : ∀ n g a K, D39 n g a K → callM C X0 n g a K := fun n => orC_ok (spec_LiteralsOk_ok hX n) (D38_ok hX n)
abbrev spec_SessionOk.a : List TS := [.a [.o (.dat 95 (.prod .str (.int .i64))), .o (.dat 126 (.prod (.int .i64) (.sl 114 (.prod (.int .i64) (.prod .bool (.prod (.sl 145 (.prod (.int .i64) (.prod (.int .i64) (.prod (.int .i64) (.prod (.int .i64) (.prod (.int .i64) (.prod (.sl 150 (.int .u64)) (.sl 2 (.int .i64))))))))) (.sl 145 (.prod (.int .i64) (.prod (.int .i64) (.prod (.int .i64) (.prod (.int .i64) (.prod (.int .i64) (.prod (.sl 150 (.int .u64)) (.sl 2 (.int .i64))))))))))))))), .o (.int .i64)]]
def spec_SessionOk.u (n : Nat) (v : VA spec_SessionOk.a) (K : RES → Prop) : Prop := spec_SessionOk.c n v.1.1 v.1.2.1 v.1.2.2.1 (fun r0 => K ⟨.c (.bool r0), []⟩)
abbrev spec_SessionOk.l5.s : ST := ⟨[(1, .c (.o (.pbox 1 0))), (3, .c (.o (.int .i64))), (4, .c (.o (.int .i64)))], [], [⟨1, 61, [.o (.dat 95 (.prod .str (.int .i64))), .o (.dat 126 (.prod (.int .i64) (.sl 114 (.prod (.int .i64) (.prod .bool (.prod (.sl 145 (.prod (.int .i64) (.prod (.int .i64) (.prod (.int .i64) (.prod (.int .i64) (.prod (.int .i64) (.prod (.sl 150 (.int .u64)) (.sl 2 (.int .i64))))))))) (.sl 145 (.prod (.int .i64) (.prod (.int .i64) (.prod (.int .i64) (.prod (.int .i64) (.prod (.int .i64) (.prod (.sl 150 (.int .u64)) (.sl 2 (.int .i64))))))))))))))), .o (.int .i64)], false⟩], [], []⟩
def spec_SessionOk.l5.u (n : Nat) (v : spec_SessionOk.l5.s.V) (K : X → St → Prop) : Prop := spec_SessionOk.l5 n v.1.2.1 v.2.2.1.1 v.2.2.1.2.1 v.2.2.1.2.2.1 v.1.2.2.1 (fun y0 y1 y2 y3 => K (.exit 0) ⟨[(1, .c (.pbox 1 0)), (3, .c (.int .i64 y0))], [], [(1, ⟨61, [.dat 95 (.prod .str (.int .i64)) y1, .dat 126 (.prod (.int .i64) (.sl 114 (.prod (.int .i64) (.prod .bool (.prod (.sl 145 (.prod (.int .i64) (.prod (.int .i64) (.prod (.int .i64) (.prod (.int .i64) (.prod (.int .i64) (.prod (.sl 150 (.int .u64)) (.sl 2 (.int .i64))))))))) (.sl 145 (.prod (.int .i64) (.prod (.int .i64) (.prod (.int .i64) (.prod (.int .i64) (.prod (.int .i64) (.prod (.sl 150 (.int .u64)) (.sl 2 (.int .i64)))))))))))))) y2, .int .i64 y3], false⟩)], [], []⟩) (fun y0 => K .ret ⟨[(2, .c (.bool y0))], [], [], [], []⟩)
abbrev spec_SessionOk.l21.s : ST := ⟨[(1, .c (.o (.pbox 1 0))), (3, .c (.o (.int .i64))), (5, .c (.o (.int .i64))), (6, .c (.o (.int .i64))), (7, .c (.o (.int .i64))), (9, .c (.o (.dat 114 (.prod (.int .i64) (.prod .bool (.prod (.sl 145 (.prod (.int .i64) (.prod (.int .i64) (.prod (.int .i64) (.prod (.int .i64) (.prod (.int .i64) (.prod (.sl 150 (.int .u64)) (.sl 2 (.int .i64))))))))) (.sl 145 (.prod (.int .i64) (.prod (.int .i64) (.prod (.int .i64) (.prod (.int .i64) (.prod (.int .i64) (.prod (.sl 150 (.int .u64)) (.sl 2 (.int .i64))))))))))))))), (10, .c (.o (.int .i64)))], [], [⟨1, 61, [.o (.dat 95 (.prod .str (.int .i64))), .o (.dat 126 (.prod (.int .i64) (.sl 114 (.prod (.int .i64) (.prod .bool (.prod (.sl 145 (.prod (.int .i64) (.prod (.int .i64) (.prod (.int .i64) (.prod (.int .i64) (.prod (.int .i64) (.prod (.sl 150 (.int .u64)) (.sl 2 (.int .i64))))))))) (.sl 145 (.prod (.int .i64) (.prod (.int .i64) (.prod (.int .i64) (.prod (.int .i64) (.prod (.int .i64) (.prod (.sl 150 (.int .u64)) (.sl 2 (.int .i64))))))))))))))), .o (.int .i64)], false⟩], [], []⟩
def spec_SessionOk.l21.u (n : Nat) (v : spec_SessionOk.l21.s.V) (K : X → St → Prop) : Prop := spec_SessionOk.l21 n v.1.2.1 v.1.2.2.1 v.1.2.2.2.2.1 v.1.2.2.2.2.2.1 v.2.2.1.1 v.2.2.1.2.1 v.2.2.1.2.2.1 v.1.2.2.2.1 v.1.2.2.2.2.2.2.1 (fun y0 y1 y2 y3 y4 y5 y6 y7 => K (.exit 4) ⟨[(1, .c (.pbox 1 0)), (3, .c (.int .i64 y0)), (5, .c (.int .i64 y1)), (6, .c (.int .i64 y2)), (7, .c (.int .i64 y3)), (9, .c (.dat 114 (.prod (.int .i64) (.prod .bool (.prod (.sl 145 (.prod (.int .i64) (.prod (.int .i64) (.prod (.int .i64) (.prod (.int .i64) (.prod (.int .i64) (.prod (.sl 150 (.int .u64)) (.sl 2 (.int .i64))))))))) (.sl 145 (.prod (.int .i64) (.prod (.int .i64) (.prod (.int .i64) (.prod (.int .i64) (.prod (.int .i64) (.prod (.sl 150 (.int .u64)) (.sl 2 (.int .i64)))))))))))) y4))], [], [(1, ⟨61, [.dat 95 (.prod .str (.int .i64)) y5, .dat 126 (.prod (.int .i64) (.sl 114 (.prod (.int .i64) (.prod .bool (.prod (.sl 145 (.prod (.int .i64) (.prod (.int .i64) (.prod (.int .i64) (.prod (.int .i64) (.prod (.int .i64) (.prod (.sl 150 (.int .u64)) (.sl 2 (.int .i64))))))))) (.sl 145 (.prod (.int .i64) (.prod (.int .i64) (.prod (.int .i64) (.prod (.int .i64) (.prod (.int .i64) (.prod (.sl 150 (.int .u64)) (.sl 2 (.int .i64)))))))))))))) y6, .int .i64 y7], false⟩)], [], []⟩) (fun y0 => K .ret ⟨[(2, .c (.bool y0))], [], [], [], []⟩)
abbrev spec_SessionOk.l12.s : ST := ⟨[(1, .c (.o (.pbox 1 0))), (3, .c (.o (.int .i64))), (5, .c (.o (.int .i64))), (6, .c (.o (.int .i64))), (7, .c (.o (.int .i64)))], [], [⟨1, 61, [.o (.dat 95 (.prod .str (.int .i64))), .o (.dat 126 (.prod (.int .i64) (.sl 114 (.prod (.int .i64) (.prod .bool (.prod (.sl 145 (.prod (.int .i64) (.prod (.int .i64) (.prod (.int .i64) (.prod (.int .i64) (.prod (.int .i64) (.prod (.sl 150 (.int .u64)) (.sl 2 (.int .i64))))))))) (.sl 145 (.prod (.int .i64) (.prod (.int .i64) (.prod (.int .i64) (.prod (.int .i64) (.prod (.int .i64) (.prod (.sl 150 (.int .u64)) (.sl 2 (.int .i64))))))))))))))), .o (.int .i64)], false⟩], [], []⟩
def spec_SessionOk.l12.u (n : Nat) (v : spec_SessionOk.l12.s.V) (K : X → St → Prop) : Prop := spec_SessionOk.l12 n v.1.2.1 v.1.2.2.1 v.1.2.2.2.1 v.1.2.2.2.2.1 v.2.2.1.1 v.2.2.1.2.1 v.2.2.1.2.2.1 (fun y0 y1 y2 y3 y4 => K (.exit 2) ⟨[(1, .c (.pbox 1 0)), (5, .c (.int .i64 y0)), (6, .c (.int .i64 y1))], [], [(1, ⟨61, [.dat 95 (.prod .str (.int .i64)) y2, .dat 126 (.prod (.int .i64) (.sl 114 (.prod (.int .i64) (.prod .bool (.prod (.sl 145 (.prod (.int .i64) (.prod (.int .i64) (.prod (.int .i64) (.prod (.int .i64) (.prod (.int .i64) (.prod (.sl 150 (.int .u64)) (.sl 2 (.int .i64))))))))) (.sl 145 (.prod (.int .i64) (.prod (.int .i64) (.prod (.int .i64) (.prod (.int .i64) (.prod (.int .i64) (.prod (.sl 150 (.int .u64)) (.sl 2 (.int .i64)))))))))))))) y3, .int .i64 y4], false⟩)], [], []⟩) (fun y0 => K .ret ⟨[(2, .c (.bool y0))], [], [], [], []⟩)
theorem spec_SessionOk.l5_ok : ∀ n v K, spec_SessionOk.l5.u n v K → loopM C X0 n 81 5 (spec_SessionOk.l5.s.fill v) K :=
 loop_tell hX (fn := Tryz.f81) (c := bodyOf Tryz.f81) (a := loopOf Tryz.f81 5) (li := liOf (C.fi 81).loops 5) (by kernel_rfl) (by kernel_rfl) (of_decide_eq_true rfl) (by kernel_rfl) (by kernel_rfl) (T := spec_SessionOk.l5.s) (u := spec_SessionOk.l5.u) (fun _ _ h => h) (call := D39) (lp := fun n => noL) (D39_ok hX) (fun n => noL_ok) (fun n v K => by kernel_rfl)
theorem spec_SessionOk.l21_ok : ∀ n v K, spec_SessionOk.l21.u n v K → loopM C X0 n 81 21 (spec_SessionOk.l21.s.fill v) K :=
 loop_tell hX (fn := Tryz.f81) (c := bodyOf Tryz.f81) (a := loopOf Tryz.f81 21) (li := liOf (C.fi 81).loops 21) (by kernel_rfl) (by kernel_rfl) (of_decide_eq_true rfl) (by kernel_rfl) (by kernel_rfl) (T := spec_SessionOk.l21.s) (u := spec_SessionOk.l21.u) (fun _ _ h => h) (call := D39) (lp := fun n => noL) (D39_ok hX) (fun n => noL_ok) (fun n v K => by kernel_rfl)
theorem spec_SessionOk.l12_ok : ∀ n v K, spec_SessionOk.l12.u n v K → loopM C X0 n 81 12 (spec_SessionOk.l12.s.fill v) K :=
 loop_tell hX (fn := Tryz.f81) (c := bodyOf Tryz.f81) (a := loopOf Tryz.f81 12) (li := liOf (C.fi 81).loops 12) (by kernel_rfl) (by kernel_rfl) (of_decide_eq_true rfl) (by kernel_rfl) (by kernel_rfl) (T := spec_SessionOk.l12.s) (u := spec_SessionOk.l12.u) (fun _ _ h => h) (call := D39) (lp := fun n => orL 21 spec_SessionOk.l21.s (spec_SessionOk.l21.u n) noL) (D39_ok hX) (fun n => (orL_ok (spec_SessionOk.l21_ok hX n) noL_ok)) (fun n v K => by kernel_rfl)
theorem spec_SessionOk_ok : ∀ n v K, spec_SessionOk.u n v K → callM C X0 n 81 (fillA spec_SessionOk.a v) K :=
 call_tell hX (fn := Tryz.f81) (c := bodyOf Tryz.f81) (by kernel_rfl) (by kernel_rfl) (A := spec_SessionOk.a) (u := spec_SessionOk.u) (fun _ _ h => h) (call := D39) (lp := fun n => orL 5 spec_SessionOk.l5.s (spec_SessionOk.l5.u n) (orL 12 spec_SessionOk.l12.s (spec_SessionOk.l12.u n) noL)) (D39_ok hX) (fun n => (orL_ok (spec_SessionOk.l5_ok hX n) (orL_ok (spec_SessionOk.l12_ok hX n) noL_ok))) (fun n v K => by kernel_rfl)
def D40 (n : Nat) : CallF := orC 81 spec_SessionOk.a (spec_SessionOk.u n) (D39 n)
theorem D40_ok : ∀ n g a K, D40 n g a K → callM C X0 n g a K := fun n => orC_ok (spec_SessionOk_ok hX n) (D39_ok hX n)
abbrev spec_l3CopyNode.a : List TS := [.a [.o (.int .i64), .o (.int .i64), .o (.int .i64), .o (.int .i64), .o (.int .i64), .o (.dat 150 (.int .u64)), .o (.dat 2 (.int .i64))]]
def spec_l3CopyNode.u (n : Nat) (v : VA spec_l3CopyNode.a) (K : RES → Prop) : Prop := spec_l3CopyNode.c n v.1.1 v.1.2.1 v.1.2.2.1 v.1.2.2.2.1 v.1.2.2.2.2.1 v.1.2.2.2.2.2.1 v.1.2.2.2.2.2.2.1 (fun r0 r1 r2 r3 r4 r5 r6 => K ⟨.agg [.int .i64 r0, .int .i64 r1, .int .i64 r2, .int .i64 r3, .int .i64 r4, .row ⟨150, .int .u64, r5, 99, none⟩, .row ⟨2, .int .i64, r6, 99, none⟩], []⟩)
theorem spec_l3CopyNode_ok : ∀ n v K, spec_l3CopyNode.u n v K → callM C X0 n 177 (fillA spec_l3CopyNode.a v) K :=
 call_tell hX (fn := Tryz.f177) (c := bodyOf Tryz.f177) (by kernel_rfl) (by kernel_rfl) (A := spec_l3CopyNode.a) (u := spec_l3CopyNode.u) (fun _ _ h => h) (call := D40) (lp := fun n => noL) (D40_ok hX) (fun n => noL_ok) (fun n v K => by kernel_rfl)
def D41 (n : Nat) : CallF := orC 177 spec_l3CopyNode.a (spec_l3CopyNode.u n) (D40 n)
theorem D41_ok : ∀ n g a K, D41 n g a K → callM C X0 n g a K := fun n => orC_ok (spec_l3CopyNode_ok hX n) (D40_ok hX n)
abbrev spec_l14CopyTerm.a : List TS := [.a [.o (.dat 145 (.prod (.int .i64) (.prod (.int .i64) (.prod (.int .i64) (.prod (.int .i64) (.prod (.int .i64) (.prod (.sl 150 (.int .u64)) (.sl 2 (.int .i64)))))))))]]
def spec_l14CopyTerm.u (n : Nat) (v : VA spec_l14CopyTerm.a) (K : RES → Prop) : Prop := spec_l14CopyTerm.c n v.1.1 (fun r0 => K ⟨.agg [.row ⟨145, .prod (.int .i64) (.prod (.int .i64) (.prod (.int .i64) (.prod (.int .i64) (.prod (.int .i64) (.prod (.sl 150 (.int .u64)) (.sl 2 (.int .i64))))))), r0, 99, none⟩], []⟩)
abbrev spec_l14CopyTerm.l3.s : ST := ⟨[(1, .c (.o (.pbox 1 0))), (2, .c (.o (.pbox 2 0))), (3, .c (.o (.pbox 3 0))), (4, .c (.o (.int .i64)))], [⟨1000064, 145, .prod (.int .i64) (.prod (.int .i64) (.prod (.int .i64) (.prod (.int .i64) (.prod (.int .i64) (.prod (.sl 150 (.int .u64)) (.sl 2 (.int .i64))))))), 99⟩, ⟨1000096, 145, .prod (.int .i64) (.prod (.int .i64) (.prod (.int .i64) (.prod (.int .i64) (.prod (.int .i64) (.prod (.sl 150 (.int .u64)) (.sl 2 (.int .i64))))))), 99⟩], [⟨1, 89, [.o (.dat 145 (.prod (.int .i64) (.prod (.int .i64) (.prod (.int .i64) (.prod (.int .i64) (.prod (.int .i64) (.prod (.sl 150 (.int .u64)) (.sl 2 (.int .i64)))))))))], false⟩, ⟨2, 89, [.o (.own 1000064)], false⟩, ⟨3, 89, [.o (.own 1000096)], false⟩], [], []⟩
def spec_l14CopyTerm.l3.u (n : Nat) (v : spec_l14CopyTerm.l3.s.V) (K : X → St → Prop) : Prop := spec_l14CopyTerm.l3 n v.2.1.1 v.2.2.1.1 v.1.2.2.2.1 v.2.1.2.1 (fun y0 y1 => K (.exit 0) ⟨[(2, .c (.pbox 2 0)), (3, .c (.pbox 3 0))], [(1000064, ⟨145, .prod (.int .i64) (.prod (.int .i64) (.prod (.int .i64) (.prod (.int .i64) (.prod (.int .i64) (.prod (.sl 150 (.int .u64)) (.sl 2 (.int .i64))))))), y0, 99, none⟩), (1000096, ⟨145, .prod (.int .i64) (.prod (.int .i64) (.prod (.int .i64) (.prod (.int .i64) (.prod (.int .i64) (.prod (.sl 150 (.int .u64)) (.sl 2 (.int .i64))))))), y1, 99, none⟩)], [(2, ⟨89, [.own 1000064], false⟩), (3, ⟨89, [.own 1000096], false⟩)], [], []⟩)
theorem spec_l14CopyTerm.l3_ok : ∀ n v K, spec_l14CopyTerm.l3.u n v K → loopM C X0 n 159 3 (spec_l14CopyTerm.l3.s.fill v) K :=
 loop_tell hX (fn := Tryz.f159) (c := bodyOf Tryz.f159) (a := loopOf Tryz.f159 3) (li := liOf (C.fi 159).loops 3) (by kernel_rfl) (by kernel_rfl) (of_decide_eq_true rfl) (by kernel_rfl) (by kernel_rfl) (T := spec_l14CopyTerm.l3.s) (u := spec_l14CopyTerm.l3.u) (fun _ _ h => h) (call := D41) (lp := fun n => noL) (D41_ok hX) (fun n => noL_ok) (fun n v K => by kernel_rfl)
theorem spec_l14CopyTerm_ok : ∀ n v K, spec_l14CopyTerm.u n v K → callM C X0 n 159 (fillA spec_l14CopyTerm.a v) K :=
 call_tell hX (fn := Tryz.f159) (c := bodyOf Tryz.f159) (by kernel_rfl) (by kernel_rfl) (A := spec_l14CopyTerm.a) (u := spec_l14CopyTerm.u) (fun _ _ h => h) (call := D41) (lp := fun n => orL 3 spec_l14CopyTerm.l3.s (spec_l14CopyTerm.l3.u n) noL) (D41_ok hX) (fun n => (orL_ok (spec_l14CopyTerm.l3_ok hX n) noL_ok)) (fun n v K => by kernel_rfl)
def D42 (n : Nat) : CallF := orC 159 spec_l14CopyTerm.a (spec_l14CopyTerm.u n) (D41 n)
theorem D42_ok : ∀ n g a K, D42 n g a K → callM C X0 n g a K := fun n => orC_ok (spec_l14CopyTerm_ok hX n) (D41_ok hX n)
abbrev spec_l16Copy.a : List TS := [.c (.o (.dat 114 (.prod (.int .i64) (.prod .bool (.prod (.sl 145 (.prod (.int .i64) (.prod (.int .i64) (.prod (.int .i64) (.prod (.int .i64) (.prod (.int .i64) (.prod (.sl 150 (.int .u64)) (.sl 2 (.int .i64))))))))) (.sl 145 (.prod (.int .i64) (.prod (.int .i64) (.prod (.int .i64) (.prod (.int .i64) (.prod (.int .i64) (.prod (.sl 150 (.int .u64)) (.sl 2 (.int .i64))))))))))))))]
def spec_l16Copy.u (n : Nat) (v : VA spec_l16Copy.a) (K : RES → Prop) : Prop := spec_l16Copy.c n v.1 (fun r0 => K ⟨.c (.row ⟨114, .prod (.int .i64) (.prod .bool (.prod (.sl 145 (.prod (.int .i64) (.prod (.int .i64) (.prod (.int .i64) (.prod (.int .i64) (.prod (.int .i64) (.prod (.sl 150 (.int .u64)) (.sl 2 (.int .i64))))))))) (.sl 145 (.prod (.int .i64) (.prod (.int .i64) (.prod (.int .i64) (.prod (.int .i64) (.prod (.int .i64) (.prod (.sl 150 (.int .u64)) (.sl 2 (.int .i64))))))))))), r0, 99, none⟩), []⟩)
abbrev spec_l16Copy.l3.s : ST := ⟨[(0, .c (.o (.dat 114 (.prod (.int .i64) (.prod .bool (.prod (.sl 145 (.prod (.int .i64) (.prod (.int .i64) (.prod (.int .i64) (.prod (.int .i64) (.prod (.int .i64) (.prod (.sl 150 (.int .u64)) (.sl 2 (.int .i64))))))))) (.sl 145 (.prod (.int .i64) (.prod (.int .i64) (.prod (.int .i64) (.prod (.int .i64) (.prod (.int .i64) (.prod (.sl 150 (.int .u64)) (.sl 2 (.int .i64))))))))))))))), (3, .c (.o (.own 96))), (4, .c (.o (.int .i64)))], [⟨96, 114, .prod (.int .i64) (.prod .bool (.prod (.sl 145 (.prod (.int .i64) (.prod (.int .i64) (.prod (.int .i64) (.prod (.int .i64) (.prod (.int .i64) (.prod (.sl 150 (.int .u64)) (.sl 2 (.int .i64))))))))) (.sl 145 (.prod (.int .i64) (.prod (.int .i64) (.prod (.int .i64) (.prod (.int .i64) (.prod (.int .i64) (.prod (.sl 150 (.int .u64)) (.sl 2 (.int .i64))))))))))), 99⟩], [], [], []⟩
def spec_l16Copy.l3.u (n : Nat) (v : spec_l16Copy.l3.s.V) (K : X → St → Prop) : Prop := spec_l16Copy.l3 n v.1.1 v.1.2.2.1 v.2.1.1 (fun y0 => K (.exit 0) ⟨[(3, .c (.own 96))], [(96, ⟨114, .prod (.int .i64) (.prod .bool (.prod (.sl 145 (.prod (.int .i64) (.prod (.int .i64) (.prod (.int .i64) (.prod (.int .i64) (.prod (.int .i64) (.prod (.sl 150 (.int .u64)) (.sl 2 (.int .i64))))))))) (.sl 145 (.prod (.int .i64) (.prod (.int .i64) (.prod (.int .i64) (.prod (.int .i64) (.prod (.int .i64) (.prod (.sl 150 (.int .u64)) (.sl 2 (.int .i64))))))))))), y0, 99, none⟩)], [], [], []⟩)
theorem spec_l16Copy.l3_ok : ∀ n v K, spec_l16Copy.l3.u n v K → loopM C X0 n 124 3 (spec_l16Copy.l3.s.fill v) K :=
 loop_tell hX (fn := Tryz.f124) (c := bodyOf Tryz.f124) (a := loopOf Tryz.f124 3) (li := liOf (C.fi 124).loops 3) (by kernel_rfl) (by kernel_rfl) (of_decide_eq_true rfl) (by kernel_rfl) (by kernel_rfl) (T := spec_l16Copy.l3.s) (u := spec_l16Copy.l3.u) (fun _ _ h => h) (call := D42) (lp := fun n => noL) (D42_ok hX) (fun n => noL_ok) (fun n v K => by kernel_rfl)
theorem spec_l16Copy_ok : ∀ n v K, spec_l16Copy.u n v K → callM C X0 n 124 (fillA spec_l16Copy.a v) K :=
 call_tell hX (fn := Tryz.f124) (c := bodyOf Tryz.f124) (by kernel_rfl) (by kernel_rfl) (A := spec_l16Copy.a) (u := spec_l16Copy.u) (fun _ _ h => h) (call := D42) (lp := fun n => orL 3 spec_l16Copy.l3.s (spec_l16Copy.l3.u n) noL) (D42_ok hX) (fun n => (orL_ok (spec_l16Copy.l3_ok hX n) noL_ok)) (fun n v K => by kernel_rfl)
def D43 (n : Nat) : CallF := orC 124 spec_l16Copy.a (spec_l16Copy.u n) (D42 n)
theorem D43_ok : ∀ n g a K, D43 n g a K → callM C X0 n g a K := fun n => orC_ok (spec_l16Copy_ok hX n) (D42_ok hX n)
abbrev spec_l21Copy.a : List TS := [.a [.o (.dat 95 (.prod .str (.int .i64))), .o (.dat 126 (.prod (.int .i64) (.sl 114 (.prod (.int .i64) (.prod .bool (.prod (.sl 145 (.prod (.int .i64) (.prod (.int .i64) (.prod (.int .i64) (.prod (.int .i64) (.prod (.int .i64) (.prod (.sl 150 (.int .u64)) (.sl 2 (.int .i64))))))))) (.sl 145 (.prod (.int .i64) (.prod (.int .i64) (.prod (.int .i64) (.prod (.int .i64) (.prod (.int .i64) (.prod (.sl 150 (.int .u64)) (.sl 2 (.int .i64))))))))))))))), .o (.int .i64)]]
def spec_l21Copy.u (n : Nat) (v : VA spec_l21Copy.a) (K : RES → Prop) : Prop := spec_l21Copy.c n v.1.1 v.1.2.1 v.1.2.2.1 (fun r0 r1 r2 => K ⟨.agg [.row ⟨95, .prod .str (.int .i64), r0, 99, none⟩, .row ⟨126, .prod (.int .i64) (.sl 114 (.prod (.int .i64) (.prod .bool (.prod (.sl 145 (.prod (.int .i64) (.prod (.int .i64) (.prod (.int .i64) (.prod (.int .i64) (.prod (.int .i64) (.prod (.sl 150 (.int .u64)) (.sl 2 (.int .i64))))))))) (.sl 145 (.prod (.int .i64) (.prod (.int .i64) (.prod (.int .i64) (.prod (.int .i64) (.prod (.int .i64) (.prod (.sl 150 (.int .u64)) (.sl 2 (.int .i64))))))))))))), r1, 99, none⟩, .int .i64 r2], []⟩)
abbrev spec_l21Copy.l3.s : ST := ⟨[(1, .c (.o (.pbox 1 0))), (2, .c (.o (.pbox 2 0))), (3, .c (.o (.pbox 3 0))), (4, .c (.o (.int .i64)))], [⟨256, 95, .prod .str (.int .i64), 99⟩, ⟨1000064, 95, .prod .str (.int .i64), 99⟩, ⟨1000065, 126, .prod (.int .i64) (.sl 114 (.prod (.int .i64) (.prod .bool (.prod (.sl 145 (.prod (.int .i64) (.prod (.int .i64) (.prod (.int .i64) (.prod (.int .i64) (.prod (.int .i64) (.prod (.sl 150 (.int .u64)) (.sl 2 (.int .i64))))))))) (.sl 145 (.prod (.int .i64) (.prod (.int .i64) (.prod (.int .i64) (.prod (.int .i64) (.prod (.int .i64) (.prod (.sl 150 (.int .u64)) (.sl 2 (.int .i64))))))))))))), 99⟩, ⟨1000097, 126, .prod (.int .i64) (.sl 114 (.prod (.int .i64) (.prod .bool (.prod (.sl 145 (.prod (.int .i64) (.prod (.int .i64) (.prod (.int .i64) (.prod (.int .i64) (.prod (.int .i64) (.prod (.sl 150 (.int .u64)) (.sl 2 (.int .i64))))))))) (.sl 145 (.prod (.int .i64) (.prod (.int .i64) (.prod (.int .i64) (.prod (.int .i64) (.prod (.int .i64) (.prod (.sl 150 (.int .u64)) (.sl 2 (.int .i64))))))))))))), 99⟩], [⟨1, 61, [.o (.dat 95 (.prod .str (.int .i64))), .o (.dat 126 (.prod (.int .i64) (.sl 114 (.prod (.int .i64) (.prod .bool (.prod (.sl 145 (.prod (.int .i64) (.prod (.int .i64) (.prod (.int .i64) (.prod (.int .i64) (.prod (.int .i64) (.prod (.sl 150 (.int .u64)) (.sl 2 (.int .i64))))))))) (.sl 145 (.prod (.int .i64) (.prod (.int .i64) (.prod (.int .i64) (.prod (.int .i64) (.prod (.int .i64) (.prod (.sl 150 (.int .u64)) (.sl 2 (.int .i64))))))))))))))), .o (.int .i64)], false⟩, ⟨2, 61, [.o (.own 1000064), .o (.own 1000065), .o (.int .i64)], false⟩, ⟨3, 61, [.o (.own 256), .o (.own 1000097), .o (.int .i64)], false⟩], [], []⟩
def spec_l21Copy.l3.u (n : Nat) (v : spec_l21Copy.l3.s.V) (K : X → St → Prop) : Prop := spec_l21Copy.l3 n v.2.1.1 v.2.1.2.1 v.2.1.2.2.1 v.2.2.1.1 v.2.2.1.2.1 v.2.2.1.2.2.1 v.2.2.2.1.2.2.1 v.2.2.2.2.1.2.2.1 v.1.2.2.2.1 v.2.1.2.2.2.1 (fun y0 y1 y2 y3 y4 y5 => K (.exit 0) ⟨[(2, .c (.pbox 2 0)), (3, .c (.pbox 3 0))], [(256, ⟨95, .prod .str (.int .i64), y0, 99, none⟩), (1000064, ⟨95, .prod .str (.int .i64), y1, 99, none⟩), (1000065, ⟨126, .prod (.int .i64) (.sl 114 (.prod (.int .i64) (.prod .bool (.prod (.sl 145 (.prod (.int .i64) (.prod (.int .i64) (.prod (.int .i64) (.prod (.int .i64) (.prod (.int .i64) (.prod (.sl 150 (.int .u64)) (.sl 2 (.int .i64))))))))) (.sl 145 (.prod (.int .i64) (.prod (.int .i64) (.prod (.int .i64) (.prod (.int .i64) (.prod (.int .i64) (.prod (.sl 150 (.int .u64)) (.sl 2 (.int .i64))))))))))))), y2, 99, none⟩), (1000097, ⟨126, .prod (.int .i64) (.sl 114 (.prod (.int .i64) (.prod .bool (.prod (.sl 145 (.prod (.int .i64) (.prod (.int .i64) (.prod (.int .i64) (.prod (.int .i64) (.prod (.int .i64) (.prod (.sl 150 (.int .u64)) (.sl 2 (.int .i64))))))))) (.sl 145 (.prod (.int .i64) (.prod (.int .i64) (.prod (.int .i64) (.prod (.int .i64) (.prod (.int .i64) (.prod (.sl 150 (.int .u64)) (.sl 2 (.int .i64))))))))))))), y3, 99, none⟩)], [(2, ⟨61, [.own 1000064, .own 1000065, .int .i64 y4], false⟩), (3, ⟨61, [.own 256, .own 1000097, .int .i64 y5], false⟩)], [], []⟩)
theorem spec_l21Copy.l3_ok : ∀ n v K, spec_l21Copy.l3.u n v K → loopM C X0 n 82 3 (spec_l21Copy.l3.s.fill v) K :=
 loop_tell hX (fn := Tryz.f82) (c := bodyOf Tryz.f82) (a := loopOf Tryz.f82 3) (li := liOf (C.fi 82).loops 3) (by kernel_rfl) (by kernel_rfl) (of_decide_eq_true rfl) (by kernel_rfl) (by kernel_rfl) (T := spec_l21Copy.l3.s) (u := spec_l21Copy.l3.u) (fun _ _ h => h) (call := D43) (lp := fun n => noL) (D43_ok hX) (fun n => noL_ok) (fun n v K => by kernel_rfl)
theorem spec_l21Copy_ok : ∀ n v K, spec_l21Copy.u n v K → callM C X0 n 82 (fillA spec_l21Copy.a v) K :=
 call_tell hX (fn := Tryz.f82) (c := bodyOf Tryz.f82) (by kernel_rfl) (by kernel_rfl) (A := spec_l21Copy.a) (u := spec_l21Copy.u) (fun _ _ h => h) (call := D43) (lp := fun n => orL 3 spec_l21Copy.l3.s (spec_l21Copy.l3.u n) noL) (D43_ok hX) (fun n => (orL_ok (spec_l21Copy.l3_ok hX n) noL_ok)) (fun n v K => by kernel_rfl)
def D44 (n : Nat) : CallF := orC 82 spec_l21Copy.a (spec_l21Copy.u n) (D43 n)
theorem D44_ok : ∀ n g a K, D44 n g a K → callM C X0 n g a K := fun n => orC_ok (spec_l21Copy_ok hX n) (D43_ok hX n)
abbrev impl_nameOk.a : List TS := [.c (.o .str)]
def impl_nameOk.u (n : Nat) (v : VA impl_nameOk.a) (K : RES → Prop) : Prop := impl_nameOk.c n v.1 (fun r0 => K ⟨.c (.bool r0), []⟩)
abbrev impl_nameOk.l4.s : ST := ⟨[(0, .c (.o .str)), (3, .c (.o (.int .i64)))], [], [], [], []⟩
def impl_nameOk.l4.u (n : Nat) (v : impl_nameOk.l4.s.V) (K : X → St → Prop) : Prop := impl_nameOk.l4 n v.1.1 v.1.2.1 (K (.exit 0) ⟨[], [], [], [], []⟩) (fun y0 => K .ret ⟨[(2, .c (.bool y0))], [], [], [], []⟩)
theorem impl_nameOk.l4_ok : ∀ n v K, impl_nameOk.l4.u n v K → loopM C X0 n 94 4 (impl_nameOk.l4.s.fill v) K :=
 loop_tell hX (fn := Tryz.f94) (c := bodyOf Tryz.f94) (a := loopOf Tryz.f94 4) (li := liOf (C.fi 94).loops 4) (by kernel_rfl) (by kernel_rfl) (of_decide_eq_true rfl) (by kernel_rfl) (by kernel_rfl) (T := impl_nameOk.l4.s) (u := impl_nameOk.l4.u) (fun _ _ h => h) (call := D44) (lp := fun n => noL) (D44_ok hX) (fun n => noL_ok) (fun n v K => by kernel_rfl)
theorem impl_nameOk_ok : ∀ n v K, impl_nameOk.u n v K → callM C X0 n 94 (fillA impl_nameOk.a v) K :=
 call_tell hX (fn := Tryz.f94) (c := bodyOf Tryz.f94) (by kernel_rfl) (by kernel_rfl) (A := impl_nameOk.a) (u := impl_nameOk.u) (fun _ _ h => h) (call := D44) (lp := fun n => orL 4 impl_nameOk.l4.s (impl_nameOk.l4.u n) noL) (D44_ok hX) (fun n => (orL_ok (impl_nameOk.l4_ok hX n) noL_ok)) (fun n v K => by kernel_rfl)
def D45 (n : Nat) : CallF := orC 94 impl_nameOk.a (impl_nameOk.u n) (D44 n)
theorem D45_ok : ∀ n g a K, D45 n g a K → callM C X0 n g a K := fun n => orC_ok (impl_nameOk_ok hX n) (D44_ok hX n)
abbrev impl_inside.a : List TS := [.c (.o (.int .i64)), .c (.o (.int .i64)), .c (.o (.int .i64))]
def impl_inside.u (n : Nat) (v : VA impl_inside.a) (K : RES → Prop) : Prop := impl_inside.c n v.1 v.2.1 v.2.2.1 (fun r0 => K ⟨.c (.bool r0), []⟩)
theorem impl_inside_ok : ∀ n v K, impl_inside.u n v K → callM C X0 n 96 (fillA impl_inside.a v) K :=
 call_tell hX (fn := Tryz.f96) (c := bodyOf Tryz.f96) (by kernel_rfl) (by kernel_rfl) (A := impl_inside.a) (u := impl_inside.u) (fun _ _ h => h) (call := D45) (lp := fun n => noL) (D45_ok hX) (fun n => noL_ok) (fun n v K => by kernel_rfl)
def D46 (n : Nat) : CallF := orC 96 impl_inside.a (impl_inside.u n) (D45 n)
theorem D46_ok : ∀ n g a K, D46 n g a K → callM C X0 n g a K := fun n => orC_ok (impl_inside_ok hX n) (D45_ok hX n)
abbrev impl_declared_1.a : List TS := [.a [.o .str, .o (.int .i64)], .c (.o (.pdat 9 .str 0))]
def impl_declared_1.u (n : Nat) (v : VA impl_declared_1.a) (K : RES → Prop) : Prop := impl_declared_1.c n v.1.1 v.1.2.1 v.2.1 (fun r0 => K ⟨.c (.bool r0), []⟩)
theorem impl_declared_1_ok : ∀ n v K, impl_declared_1.u n v K → callM C X0 n 134 (fillA impl_declared_1.a v) K :=
 call_tell hX (fn := Tryz.f134) (c := bodyOf Tryz.f134) (by kernel_rfl) (by kernel_rfl) (A := impl_declared_1.a) (u := impl_declared_1.u) (fun _ _ h => h) (call := D46) (lp := fun n => noL) (D46_ok hX) (fun n => noL_ok) (fun n v K => by kernel_rfl)
def D47 (n : Nat) : CallF := orC 134 impl_declared_1.a (impl_declared_1.u n) (D46 n)
theorem D47_ok : ∀ n g a K, D47 n g a K → callM C X0 n g a K := fun n => orC_ok (impl_declared_1_ok hX n) (D46_ok hX n)
abbrev slices_IndexFunc_Decl__impl_declared_1.a : List TS := [.c (.o (.dat 95 (.prod .str (.int .i64)))), .c (.fn 134 [(false, 1)] 0 [.pdat 9 .str 0])]
def slices_IndexFunc_Decl__impl_declared_1.u (n : Nat) (v : VA slices_IndexFunc_Decl__impl_declared_1.a) (K : RES → Prop) : Prop := slices_IndexFunc_Decl__impl_declared_1.c n v.1 v.2.1.1 (fun r0 => K ⟨.c (.int .i64 r0), []⟩)
abbrev slices_IndexFunc_Decl__impl_declared_1.l2.s : ST := ⟨[(0, .c (.o (.dat 95 (.prod .str (.int .i64))))), (1, .c (.fn 134 [(false, 1)] 0 [.pdat 9 .str 0])), (7, .c (.o (.int .i64))), (8, .c (.o (.int .i64)))], [], [], [], []⟩
def slices_IndexFunc_Decl__impl_declared_1.l2.u (n : Nat) (v : slices_IndexFunc_Decl__impl_declared_1.l2.s.V) (K : X → St → Prop) : Prop := slices_IndexFunc_Decl__impl_declared_1.l2 n v.1.1 v.1.2.1.1 v.1.2.2.1 v.1.2.2.2.1 (K (.exit 0) ⟨[], [], [], [], []⟩) (fun y0 => K .ret ⟨[(4, .c (.int .i64 y0))], [], [], [], []⟩)
theorem slices_IndexFunc_Decl__impl_declared_1.l2_ok : ∀ n v K, slices_IndexFunc_Decl__impl_declared_1.l2.u n v K → loopM C X0 n 133 2 (slices_IndexFunc_Decl__impl_declared_1.l2.s.fill v) K :=
 loop_tell hX (fn := Tryz.f133) (c := bodyOf Tryz.f133) (a := loopOf Tryz.f133 2) (li := liOf (C.fi 133).loops 2) (by kernel_rfl) (by kernel_rfl) (of_decide_eq_true rfl) (by kernel_rfl) (by kernel_rfl) (T := slices_IndexFunc_Decl__impl_declared_1.l2.s) (u := slices_IndexFunc_Decl__impl_declared_1.l2.u) (fun _ _ h => h) (call := D47) (lp := fun n => noL) (D47_ok hX) (fun n => noL_ok) (fun n v K => by kernel_rfl)
theorem slices_IndexFunc_Decl__impl_declared_1_ok : ∀ n v K, slices_IndexFunc_Decl__impl_declared_1.u n v K → callM C X0 n 133 (fillA slices_IndexFunc_Decl__impl_declared_1.a v) K :=
 call_tell hX (fn := Tryz.f133) (c := bodyOf Tryz.f133) (by kernel_rfl) (by kernel_rfl) (A := slices_IndexFunc_Decl__impl_declared_1.a) (u := slices_IndexFunc_Decl__impl_declared_1.u) (fun _ _ h => h) (call := D47) (lp := fun n => orL 2 slices_IndexFunc_Decl__impl_declared_1.l2.s (slices_IndexFunc_Decl__impl_declared_1.l2.u n) noL) (D47_ok hX) (fun n => (orL_ok (slices_IndexFunc_Decl__impl_declared_1.l2_ok hX n) noL_ok)) (fun n v K => by kernel_rfl)
def D48 (n : Nat) : CallF := orC 133 slices_IndexFunc_Decl__impl_declared_1.a (slices_IndexFunc_Decl__impl_declared_1.u n) (D47 n)
theorem D48_ok : ∀ n g a K, D48 n g a K → callM C X0 n g a K := fun n => orC_ok (slices_IndexFunc_Decl__impl_declared_1_ok hX n) (D47_ok hX n)
abbrev impl_declared.a : List TS := [.c (.o (.dat 95 (.prod .str (.int .i64)))), .c (.o .str)]
def impl_declared.u (n : Nat) (v : VA impl_declared.a) (K : RES → Prop) : Prop := impl_declared.c n v.1 v.2.1 (fun r0 => K ⟨.c (.int .i64 r0), []⟩)
theorem impl_declared_ok : ∀ n v K, impl_declared.u n v K → callM C X0 n 95 (fillA impl_declared.a v) K :=
 call_tell hX (fn := Tryz.f95) (c := bodyOf Tryz.f95) (by kernel_rfl) (by kernel_rfl) (A := impl_declared.a) (u := impl_declared.u) (fun _ _ h => h) (call := D48) (lp := fun n => noL) (D48_ok hX) (fun n => noL_ok) (fun n v K => by kernel_rfl)
def D49 (n : Nat) : CallF := orC 95 impl_declared.a (impl_declared.u n) (D48 n)
theorem D49_ok : ∀ n g a K, D49 n g a K → callM C X0 n g a K := fun n => orC_ok (impl_declared_ok hX n) (D48_ok hX n)
abbrev impl_DeclsOk.a : List TS := [.c (.o (.dat 95 (.prod .str (.int .i64))))]
def impl_DeclsOk.u (n : Nat) (v : VA impl_DeclsOk.a) (K : RES → Prop) : Prop := impl_DeclsOk.c n v.1 (fun r0 => K ⟨.c (.bool r0), []⟩)
abbrev impl_DeclsOk.l5.s : ST := ⟨[(0, .c (.o (.dat 95 (.prod .str (.int .i64))))), (3, .c (.o (.int .i64))), (9, .c (.o (.dat 95 (.prod .str (.int .i64))))), (10, .c (.o (.int .i64))), (11, .c (.o (.int .i64)))], [], [], [], []⟩
def impl_DeclsOk.l5.u (n : Nat) (v : impl_DeclsOk.l5.s.V) (K : X → St → Prop) : Prop := impl_DeclsOk.l5 n v.1.1 v.1.2.2.1 v.1.2.2.2.1 v.1.2.1 v.1.2.2.2.2.1 (fun y0 => K (.exit 0) ⟨[(3, .c (.int .i64 y0))], [], [], [], []⟩) (fun y0 => K .ret ⟨[(2, .c (.bool y0))], [], [], [], []⟩)
theorem impl_DeclsOk.l5_ok : ∀ n v K, impl_DeclsOk.l5.u n v K → loopM C X0 n 112 5 (impl_DeclsOk.l5.s.fill v) K :=
 loop_tell hX (fn := Tryz.f112) (c := bodyOf Tryz.f112) (a := loopOf Tryz.f112 5) (li := liOf (C.fi 112).loops 5) (by kernel_rfl) (by kernel_rfl) (of_decide_eq_true rfl) (by kernel_rfl) (by kernel_rfl) (T := impl_DeclsOk.l5.s) (u := impl_DeclsOk.l5.u) (fun _ _ h => h) (call := D49) (lp := fun n => noL) (D49_ok hX) (fun n => noL_ok) (fun n v K => by kernel_rfl)
theorem impl_DeclsOk_ok : ∀ n v K, impl_DeclsOk.u n v K → callM C X0 n 112 (fillA impl_DeclsOk.a v) K :=
 call_tell hX (fn := Tryz.f112) (c := bodyOf Tryz.f112) (by kernel_rfl) (by kernel_rfl) (A := impl_DeclsOk.a) (u := impl_DeclsOk.u) (fun _ _ h => h) (call := D49) (lp := fun n => orL 5 impl_DeclsOk.l5.s (impl_DeclsOk.l5.u n) noL) (D49_ok hX) (fun n => (orL_ok (impl_DeclsOk.l5_ok hX n) noL_ok)) (fun n v K => by kernel_rfl)
def D50 (n : Nat) : CallF := orC 112 impl_DeclsOk.a (impl_DeclsOk.u n) (D49 n)
theorem D50_ok : ∀ n g a K, D50 n g a K → callM C X0 n g a K := fun n => orC_ok (impl_DeclsOk_ok hX n) (D49_ok hX n)
abbrev impl_Session_end.a : List TS := [.c (.o (.pdat 61 (.prod (.sl 95 (.prod .str (.int .i64))) (.prod (.sl 126 (.prod (.int .i64) (.sl 114 (.prod (.int .i64) (.prod .bool (.prod (.sl 145 (.prod (.int .i64) (.prod (.int .i64) (.prod (.int .i64) (.prod (.int .i64) (.prod (.int .i64) (.prod (.sl 150 (.int .u64)) (.sl 2 (.int .i64))))))))) (.sl 145 (.prod (.int .i64) (.prod (.int .i64) (.prod (.int .i64) (.prod (.int .i64) (.prod (.int .i64) (.prod (.sl 150 (.int .u64)) (.sl 2 (.int .i64))))))))))))))) (.int .i64))) 0)), .c (.o (.int .i64))]
def impl_Session_end.u (n : Nat) (v : VA impl_Session_end.a) (K : RES → Prop) : Prop := impl_Session_end.c n v.1 v.2.1 (fun r0 => K ⟨.c (.int .i64 r0), []⟩)
theorem impl_Session_end_ok : ∀ n v K, impl_Session_end.u n v K → callM C X0 n 126 (fillA impl_Session_end.a v) K :=
 call_tell hX (fn := Tryz.f126) (c := bodyOf Tryz.f126) (by kernel_rfl) (by kernel_rfl) (A := impl_Session_end.a) (u := impl_Session_end.u) (fun _ _ h => h) (call := D50) (lp := fun n => noL) (D50_ok hX) (fun n => noL_ok) (fun n v K => by kernel_rfl)
def D51 (n : Nat) : CallF := orC 126 impl_Session_end.a (impl_Session_end.u n) (D50 n)
theorem D51_ok : ∀ n g a K, D51 n g a K → callM C X0 n g a K := fun n => orC_ok (impl_Session_end_ok hX n) (D50_ok hX n)
abbrev impl_wordsFor.a : List TS := [.c (.o (.int .i64))]
def impl_wordsFor.u (n : Nat) (v : VA impl_wordsFor.a) (K : RES → Prop) : Prop := impl_wordsFor.c n v.1 (fun r0 => K ⟨.c (.int .i64 r0), []⟩)
theorem impl_wordsFor_ok : ∀ n v K, impl_wordsFor.u n v K → callM C X0 n 169 (fillA impl_wordsFor.a v) K :=
 call_tell hX (fn := Tryz.f169) (c := bodyOf Tryz.f169) (by kernel_rfl) (by kernel_rfl) (A := impl_wordsFor.a) (u := impl_wordsFor.u) (fun _ _ h => h) (call := D51) (lp := fun n => noL) (D51_ok hX) (fun n => noL_ok) (fun n v K => by kernel_rfl)
def D52 (n : Nat) : CallF := orC 169 impl_wordsFor.a (impl_wordsFor.u n) (D51 n)
theorem D52_ok : ∀ n g a K, D52 n g a K → callM C X0 n g a K := fun n => orC_ok (impl_wordsFor_ok hX n) (D51_ok hX n)
abbrev impl_BitsOk.a : List TS := [.a [.o (.int .i64), .o (.dat 150 (.int .u64))]]
def impl_BitsOk.u (n : Nat) (v : VA impl_BitsOk.a) (K : RES → Prop) : Prop := impl_BitsOk.c n v.1.1 v.1.2.1 (fun r0 => K ⟨.c (.bool r0), []⟩)
theorem impl_BitsOk_ok : ∀ n v K, impl_BitsOk.u n v K → callM C X0 n 150 (fillA impl_BitsOk.a v) K :=
 call_tell hX (fn := Tryz.f150) (c := bodyOf Tryz.f150) (by kernel_rfl) (by kernel_rfl) (A := impl_BitsOk.a) (u := impl_BitsOk.u) (fun _ _ h => h) (call := D52) (lp := fun n => noL) (D52_ok hX) (fun n => noL_ok) (fun n v K => by kernel_rfl)
def D53 (n : Nat) : CallF := orC 150 impl_BitsOk.a (impl_BitsOk.u n) (D52 n)
theorem D53_ok : ∀ n g a K, D53 n g a K → callM C X0 n g a K := fun n => orC_ok (impl_BitsOk_ok hX n) (D52_ok hX n)
abbrev impl_TNode_width.a : List TS := [.c (.o (.pdat 145 (.prod (.int .i64) (.prod (.int .i64) (.prod (.int .i64) (.prod (.int .i64) (.prod (.int .i64) (.prod (.sl 150 (.int .u64)) (.sl 2 (.int .i64)))))))) 0)), .c (.o (.dat 95 (.prod .str (.int .i64)))), .c (.o (.dat 2 (.int .i64)))]
def impl_TNode_width.u (n : Nat) (v : VA impl_TNode_width.a) (K : RES → Prop) : Prop := impl_TNode_width.c n v.1 v.2.1 v.2.2.1 (fun r0 => K ⟨.c (.int .i64 r0), []⟩)
abbrev impl_TNode_width.l11.s : ST := ⟨[(8, .c (.o (.int .i64))), (80, .c (.o (.dat 2 (.int .i64)))), (81, .c (.o (.int .i64))), (82, .c (.o (.int .i64)))], [], [], [], []⟩
def impl_TNode_width.l11.u (n : Nat) (v : impl_TNode_width.l11.s.V) (K : X → St → Prop) : Prop := impl_TNode_width.l11 n v.1.2.1 v.1.2.2.1 v.1.1 v.1.2.2.2.1 (fun y0 => K (.exit 1) ⟨[(8, .c (.int .i64 y0))], [], [], [], []⟩)
abbrev impl_TNode_width.q21.s : ST := ⟨[(0, .c (.o (.pdat 145 (.prod (.int .i64) (.prod (.int .i64) (.prod (.int .i64) (.prod (.int .i64) (.prod (.int .i64) (.prod (.sl 150 (.int .u64)) (.sl 2 (.int .i64)))))))) 0))), (7, .c (.o (.int .i64))), (137, .c (.o .bool))], [], [], [], []⟩
def impl_TNode_width.q21.u (n : Nat) (v : impl_TNode_width.q21.s.V) (K : X → St → Prop) : Prop := impl_TNode_width.q21 n v.1.1 v.1.2.1 v.1.2.2.1 (fun y0 => K .ret ⟨[(6, .c (.int .i64 y0))], [], [], [], []⟩) (K .normal ⟨[], [], [], [], []⟩)
abbrev impl_TNode_width.q9.s : ST := ⟨[(0, .c (.o (.pdat 145 (.prod (.int .i64) (.prod (.int .i64) (.prod (.int .i64) (.prod (.int .i64) (.prod (.int .i64) (.prod (.sl 150 (.int .u64)) (.sl 2 (.int .i64)))))))) 0))), (2, .c (.o (.dat 2 (.int .i64)))), (7, .c (.o (.int .i64))), (69, .c (.o .bool))], [], [], [], []⟩
def impl_TNode_width.q9.u (n : Nat) (v : impl_TNode_width.q9.s.V) (K : X → St → Prop) : Prop := impl_TNode_width.q9 n v.1.1 v.1.2.1 v.1.2.2.1 v.1.2.2.2.1 (fun y0 => K .ret ⟨[(6, .c (.int .i64 y0))], [], [], [], []⟩) (K .normal ⟨[], [], [], [], []⟩)
abbrev impl_TNode_width.q5.s : ST := ⟨[(0, .c (.o (.pdat 145 (.prod (.int .i64) (.prod (.int .i64) (.prod (.int .i64) (.prod (.int .i64) (.prod (.int .i64) (.prod (.sl 150 (.int .u64)) (.sl 2 (.int .i64)))))))) 0))), (1, .c (.o (.dat 95 (.prod .str (.int .i64))))), (2, .c (.o (.dat 2 (.int .i64)))), (7, .c (.o (.int .i64))), (17, .c (.o .bool))], [], [], [], []⟩
def impl_TNode_width.q5.u (n : Nat) (v : impl_TNode_width.q5.s.V) (K : X → St → Prop) : Prop := impl_TNode_width.q5 n v.1.1 v.1.2.1 v.1.2.2.1 v.1.2.2.2.1 v.1.2.2.2.2.1 (fun y0 => K .ret ⟨[(6, .c (.int .i64 y0))], [], [], [], []⟩) (K .normal ⟨[], [], [], [], []⟩)
theorem impl_TNode_width.l11_ok : ∀ n v K, impl_TNode_width.l11.u n v K → loopM C X0 n 170 11 (impl_TNode_width.l11.s.fill v) K :=
 loop_tell hX (fn := Tryz.f170) (c := bodyOf Tryz.f170) (a := loopOf Tryz.f170 11) (li := liOf (C.fi 170).loops 11) (by kernel_rfl) (by kernel_rfl) (of_decide_eq_true rfl) (by kernel_rfl) (by kernel_rfl) (T := impl_TNode_width.l11.s) (u := impl_TNode_width.l11.u) (fun _ _ h => h) (call := D53) (lp := fun n => noL) (D53_ok hX) (fun n => noL_ok) (fun n v K => by kernel_rfl)
theorem impl_TNode_width.q21_ok : ∀ n v K, impl_TNode_width.q21.u n v K → loopM C X0 n 170 1000021 (impl_TNode_width.q21.s.fill v) K :=
 cut_tell hX (fn := Tryz.f170) (c := bodyOf Tryz.f170) (a := cutOf Tryz.f170 21) (li := liOf (C.fi 170).loops 1000021) (by kernel_rfl) (by kernel_rfl) (of_decide_eq_true rfl) (by kernel_rfl) (by kernel_rfl) (T := impl_TNode_width.q21.s) (u := impl_TNode_width.q21.u) (fun _ _ h => h) (call := D53) (lp := fun n => noL) (D53_ok hX) (fun n => noL_ok) (fun n v K => by kernel_rfl)
theorem impl_TNode_width.q9_ok : ∀ n v K, impl_TNode_width.q9.u n v K → loopM C X0 n 170 1000009 (impl_TNode_width.q9.s.fill v) K :=
 cut_tell hX (fn := Tryz.f170) (c := bodyOf Tryz.f170) (a := cutOf Tryz.f170 9) (li := liOf (C.fi 170).loops 1000009) (by kernel_rfl) (by kernel_rfl) (of_decide_eq_true rfl) (by kernel_rfl) (by kernel_rfl) (T := impl_TNode_width.q9.s) (u := impl_TNode_width.q9.u) (fun _ _ h => h) (call := D53) (lp := fun n => orL 11 impl_TNode_width.l11.s (impl_TNode_width.l11.u n) (orL 1000021 impl_TNode_width.q21.s (impl_TNode_width.q21.u n) noL)) (D53_ok hX) (fun n => (orL_ok (impl_TNode_width.l11_ok hX n) (orL_ok (impl_TNode_width.q21_ok hX n) noL_ok))) (fun n v K => by kernel_rfl)
theorem impl_TNode_width.q5_ok : ∀ n v K, impl_TNode_width.q5.u n v K → loopM C X0 n 170 1000005 (impl_TNode_width.q5.s.fill v) K :=
 cut_tell hX (fn := Tryz.f170) (c := bodyOf Tryz.f170) (a := cutOf Tryz.f170 5) (li := liOf (C.fi 170).loops 1000005) (by kernel_rfl) (by kernel_rfl) (of_decide_eq_true rfl) (by kernel_rfl) (by kernel_rfl) (T := impl_TNode_width.q5.s) (u := impl_TNode_width.q5.u) (fun _ _ h => h) (call := D53) (lp := fun n => orL 1000009 impl_TNode_width.q9.s (impl_TNode_width.q9.u n) noL) (D53_ok hX) (fun n => (orL_ok (impl_TNode_width.q9_ok hX n) noL_ok)) (fun n v K => by kernel_rfl)
theorem impl_TNode_width_ok : ∀ n v K, impl_TNode_width.u n v K → callM C X0 n 170 (fillA impl_TNode_width.a v) K :=
 call_tell hX (fn := Tryz.f170) (c := bodyOf Tryz.f170) (by kernel_rfl) (by kernel_rfl) (A := impl_TNode_width.a) (u := impl_TNode_width.u) (fun _ _ h => h) (call := D53) (lp := fun n => orL 1000005 impl_TNode_width.q5.s (impl_TNode_width.q5.u n) noL) (D53_ok hX) (fun n => (orL_ok (impl_TNode_width.q5_ok hX n) noL_ok)) (fun n v K => by kernel_rfl)
def D54 (n : Nat) : CallF := orC 170 impl_TNode_width.a (impl_TNode_width.u n) (D53 n)
theorem D54_ok : ∀ n g a K, D54 n g a K → callM C X0 n g a K := fun n => orC_ok (impl_TNode_width_ok hX n) (D53_ok hX n)
abbrev impl_TNode_plain.a : List TS := [.c (.o (.pdat 145 (.prod (.int .i64) (.prod (.int .i64) (.prod (.int .i64) (.prod (.int .i64) (.prod (.int .i64) (.prod (.sl 150 (.int .u64)) (.sl 2 (.int .i64)))))))) 0))]
def impl_TNode_plain.u (n : Nat) (v : VA impl_TNode_plain.a) (K : RES → Prop) : Prop := impl_TNode_plain.c n v.1 (fun r0 => K ⟨.c (.bool r0), []⟩)
abbrev impl_TNode_plain.q3.s : ST := ⟨[(0, .c (.o (.pdat 145 (.prod (.int .i64) (.prod (.int .i64) (.prod (.int .i64) (.prod (.int .i64) (.prod (.int .i64) (.prod (.sl 150 (.int .u64)) (.sl 2 (.int .i64)))))))) 0))), (52, .c (.o .bool))], [], [], [], []⟩
def impl_TNode_plain.q3.u (n : Nat) (v : impl_TNode_plain.q3.s.V) (K : X → St → Prop) : Prop := impl_TNode_plain.q3 n v.1.1 v.1.2.1 (fun y0 => K .ret ⟨[(2, .c (.bool y0))], [], [], [], []⟩) (fun y0 => K .normal ⟨[(0, .c (.pdat 145 (.prod (.int .i64) (.prod (.int .i64) (.prod (.int .i64) (.prod (.int .i64) (.prod (.int .i64) (.prod (.sl 150 (.int .u64)) (.sl 2 (.int .i64)))))))) y0 0))], [], [], [], []⟩)
abbrev impl_TNode_plain.q2.s : ST := ⟨[(0, .c (.o (.pdat 145 (.prod (.int .i64) (.prod (.int .i64) (.prod (.int .i64) (.prod (.int .i64) (.prod (.int .i64) (.prod (.sl 150 (.int .u64)) (.sl 2 (.int .i64)))))))) 0))), (3, .c (.o .bool))], [], [], [], []⟩
def impl_TNode_plain.q2.u (n : Nat) (v : impl_TNode_plain.q2.s.V) (K : X → St → Prop) : Prop := impl_TNode_plain.q2 n v.1.1 v.1.2.1 (fun y0 => K .ret ⟨[(2, .c (.bool y0))], [], [], [], []⟩)
theorem impl_TNode_plain.q3_ok : ∀ n v K, impl_TNode_plain.q3.u n v K → loopM C X0 n 171 1000003 (impl_TNode_plain.q3.s.fill v) K :=
 cut_tell hX (fn := Tryz.f171) (c := bodyOf Tryz.f171) (a := cutOf Tryz.f171 3) (li := liOf (C.fi 171).loops 1000003) (by kernel_rfl) (by kernel_rfl) (of_decide_eq_true rfl) (by kernel_rfl) (by kernel_rfl) (T := impl_TNode_plain.q3.s) (u := impl_TNode_plain.q3.u) (fun _ _ h => h) (call := D54) (lp := fun n => noL) (D54_ok hX) (fun n => noL_ok) (fun n v K => by kernel_rfl)
theorem impl_TNode_plain.q2_ok : ∀ n v K, impl_TNode_plain.q2.u n v K → loopM C X0 n 171 1000002 (impl_TNode_plain.q2.s.fill v) K :=
 cut_tell hX (fn := Tryz.f171) (c := bodyOf Tryz.f171) (a := cutOf Tryz.f171 2) (li := liOf (C.fi 171).loops 1000002) (by kernel_rfl) (by kernel_rfl) (of_decide_eq_true rfl) (by kernel_rfl) (by kernel_rfl) (T := impl_TNode_plain.q2.s) (u := impl_TNode_plain.q2.u) (fun _ _ h => h) (call := D54) (lp := fun n => orL 1000003 impl_TNode_plain.q3.s (impl_TNode_plain.q3.u n) noL) (D54_ok hX) (fun n => (orL_ok (impl_TNode_plain.q3_ok hX n) noL_ok)) (fun n v K => by kernel_rfl)
theorem impl_TNode_plain_ok : ∀ n v K, impl_TNode_plain.u n v K → callM C X0 n 171 (fillA impl_TNode_plain.a v) K :=
 call_tell hX (fn := Tryz.f171) (c := bodyOf Tryz.f171) (by kernel_rfl) (by kernel_rfl) (A := impl_TNode_plain.a) (u := impl_TNode_plain.u) (fun _ _ h => h) (call := D54) (lp := fun n => orL 1000002 impl_TNode_plain.q2.s (impl_TNode_plain.q2.u n) noL) (D54_ok hX) (fun n => (orL_ok (impl_TNode_plain.q2_ok hX n) noL_ok)) (fun n v K => by kernel_rfl)
def D55 (n : Nat) : CallF := orC 171 impl_TNode_plain.a (impl_TNode_plain.u n) (D54 n)
theorem D55_ok : ∀ n g a K, D55 n g a K → callM C X0 n g a K := fun n => orC_ok (impl_TNode_plain_ok hX n) (D54_ok hX n)
abbrev slices_Index_bool.a : List TS := [.c (.o (.dat 4 .bool)), .c (.o .bool)]
def slices_Index_bool.u (n : Nat) (v : VA slices_Index_bool.a) (K : RES → Prop) : Prop := slices_Index_bool.c n v.1 v.2.1 (fun r0 => K ⟨.c (.int .i64 r0), []⟩)
abbrev slices_Index_bool.l2.s : ST := ⟨[(0, .c (.o (.dat 4 .bool))), (1, .c (.o .bool)), (7, .c (.o (.int .i64))), (8, .c (.o (.int .i64)))], [], [], [], []⟩
def slices_Index_bool.l2.u (n : Nat) (v : slices_Index_bool.l2.s.V) (K : X → St → Prop) : Prop := slices_Index_bool.l2 n v.1.1 v.1.2.1 v.1.2.2.1 v.1.2.2.2.1 (K (.exit 0) ⟨[], [], [], [], []⟩) (fun y0 => K .ret ⟨[(4, .c (.int .i64 y0))], [], [], [], []⟩)
theorem slices_Index_bool.l2_ok : ∀ n v K, slices_Index_bool.l2.u n v K → loopM C X0 n 183 2 (slices_Index_bool.l2.s.fill v) K :=
 loop_tell hX (fn := Tryz.f183) (c := bodyOf Tryz.f183) (a := loopOf Tryz.f183 2) (li := liOf (C.fi 183).loops 2) (by kernel_rfl) (by kernel_rfl) (of_decide_eq_true rfl) (by kernel_rfl) (by kernel_rfl) (T := slices_Index_bool.l2.s) (u := slices_Index_bool.l2.u) (fun _ _ h => h) (call := D55) (lp := fun n => noL) (D55_ok hX) (fun n => noL_ok) (fun n v K => by kernel_rfl)
theorem slices_Index_bool_ok : ∀ n v K, slices_Index_bool.u n v K → callM C X0 n 183 (fillA slices_Index_bool.a v) K :=
 call_tell hX (fn := Tryz.f183) (c := bodyOf Tryz.f183) (by kernel_rfl) (by kernel_rfl) (A := slices_Index_bool.a) (u := slices_Index_bool.u) (fun _ _ h => h) (call := D55) (lp := fun n => orL 2 slices_Index_bool.l2.s (slices_Index_bool.l2.u n) noL) (D55_ok hX) (fun n => (orL_ok (slices_Index_bool.l2_ok hX n) noL_ok)) (fun n v K => by kernel_rfl)
def D56 (n : Nat) : CallF := orC 183 slices_Index_bool.a (slices_Index_bool.u n) (D55 n)
theorem D56_ok : ∀ n g a K, D56 n g a K → callM C X0 n g a K := fun n => orC_ok (slices_Index_bool_ok hX n) (D55_ok hX n)
abbrev slices_Contains_bool.a : List TS := [.c (.o (.dat 4 .bool)), .c (.o .bool)]
def slices_Contains_bool.u (n : Nat) (v : VA slices_Contains_bool.a) (K : RES → Prop) : Prop := slices_Contains_bool.c n v.1 v.2.1 (fun r0 => K ⟨.c (.bool r0), []⟩)
theorem slices_Contains_bool_ok : ∀ n v K, slices_Contains_bool.u n v K → callM C X0 n 172 (fillA slices_Contains_bool.a v) K :=
 call_tell hX (fn := Tryz.f172) (c := bodyOf Tryz.f172) (by kernel_rfl) (by kernel_rfl) (A := slices_Contains_bool.a) (u := slices_Contains_bool.u) (fun _ _ h => h) (call := D56) (lp := fun n => noL) (D56_ok hX) (fun n => noL_ok) (fun n v K => by kernel_rfl)
def D57 (n : Nat) : CallF := orC 172 slices_Contains_bool.a (slices_Contains_bool.u n) (D56 n)
theorem D57_ok : ∀ n g a K, D57 n g a K → callM C X0 n g a K := fun n => orC_ok (slices_Contains_bool_ok hX n) (D56_ok hX n)
abbrev impl_widths.a : List TS := [.c (.o (.dat 95 (.prod .str (.int .i64)))), .a [.o (.dat 145 (.prod (.int .i64) (.prod (.int .i64) (.prod (.int .i64) (.prod (.int .i64) (.prod (.int .i64) (.prod (.sl 150 (.int .u64)) (.sl 2 (.int .i64)))))))))]]
def impl_widths.u (n : Nat) (v : VA impl_widths.a) (K : RES → Prop) : Prop := impl_widths.c n v.1 v.2.1.1 (fun r0 r1 => K ⟨.tup [.c (.row ⟨2, .int .i64, r0, 99, none⟩), .c (.bool r1)], []⟩)
abbrev impl_widths.l13.s : ST := ⟨[(0, .c (.o (.dat 95 (.prod .str (.int .i64))))), (3, .c (.o (.pbox 3 0))), (6, .c (.o (.int .i64))), (7, .c (.o (.own 768))), (8, .c (.o (.own 832))), (9, .c (.o (.int .i64))), (10, .c (.o (.pdat 145 (.prod (.int .i64) (.prod (.int .i64) (.prod (.int .i64) (.prod (.int .i64) (.prod (.int .i64) (.prod (.sl 150 (.int .u64)) (.sl 2 (.int .i64)))))))) 0))), (11, .c (.o (.own 1536))), (29, .c (.o (.int .i64))), (30, .c (.o (.int .i64))), (52, .c (.o (.dat 2 (.int .i64)))), (53, .c (.o (.int .i64))), (54, .c (.o (.int .i64)))], [⟨768, 2, .int .i64, 99⟩, ⟨832, 4, .bool, 99⟩, ⟨1536, 2, .int .i64, 99⟩], [⟨3, 89, [.o (.dat 145 (.prod (.int .i64) (.prod (.int .i64) (.prod (.int .i64) (.prod (.int .i64) (.prod (.int .i64) (.prod (.sl 150 (.int .u64)) (.sl 2 (.int .i64)))))))))], false⟩], [], []⟩
def impl_widths.l13.u (n : Nat) (v : impl_widths.l13.s.V) (K : X → St → Prop) : Prop := impl_widths.l13 n v.1.1 v.1.2.2.1 v.1.2.2.2.2.2.1 v.1.2.2.2.2.2.2.1 v.1.2.2.2.2.2.2.2.2.1 v.1.2.2.2.2.2.2.2.2.2.1 v.1.2.2.2.2.2.2.2.2.2.2.1 v.1.2.2.2.2.2.2.2.2.2.2.2.1 v.2.1.1 v.2.2.1.1 v.1.2.2.2.2.2.2.2.2.2.2.2.2.1 v.2.1.2.1 v.2.1.2.2.1 (fun y0 y1 y2 y3 y4 y5 y6 y7 y8 y9 => K (.exit 2) ⟨[(0, .c (.dat 95 (.prod .str (.int .i64)) y0)), (3, .c (.pbox 3 0)), (6, .c (.int .i64 y1)), (7, .c (.own 768)), (8, .c (.own 832)), (9, .c (.int .i64 y2)), (10, .c (.pdat 145 (.prod (.int .i64) (.prod (.int .i64) (.prod (.int .i64) (.prod (.int .i64) (.prod (.int .i64) (.prod (.sl 150 (.int .u64)) (.sl 2 (.int .i64)))))))) y3 0)), (11, .c (.own 1536)), (29, .c (.int .i64 y4)), (30, .c (.int .i64 y5))], [(768, ⟨2, .int .i64, y6, 99, none⟩), (832, ⟨4, .bool, y7, 99, none⟩), (1536, ⟨2, .int .i64, y8, 99, none⟩)], [(3, ⟨89, [.dat 145 (.prod (.int .i64) (.prod (.int .i64) (.prod (.int .i64) (.prod (.int .i64) (.prod (.int .i64) (.prod (.sl 150 (.int .u64)) (.sl 2 (.int .i64)))))))) y9], false⟩)], [], []⟩) (fun y0 y1 => K .ret ⟨[(4, .c (.own 128)), (5, .c (.bool y0))], [(128, ⟨2, .int .i64, y1, 99, none⟩)], [], [], []⟩)
abbrev impl_widths.l6.s : ST := ⟨[(0, .c (.o (.dat 95 (.prod .str (.int .i64))))), (3, .c (.o (.pbox 3 0))), (6, .c (.o (.int .i64))), (7, .c (.o (.own 768))), (8, .c (.o (.own 832))), (29, .c (.o (.int .i64))), (30, .c (.o (.int .i64)))], [⟨768, 2, .int .i64, 99⟩, ⟨832, 4, .bool, 99⟩], [⟨3, 89, [.o (.dat 145 (.prod (.int .i64) (.prod (.int .i64) (.prod (.int .i64) (.prod (.int .i64) (.prod (.int .i64) (.prod (.sl 150 (.int .u64)) (.sl 2 (.int .i64)))))))))], false⟩], [], []⟩
def impl_widths.l6.u (n : Nat) (v : impl_widths.l6.s.V) (K : X → St → Prop) : Prop := impl_widths.l6 n v.1.1 v.1.2.2.1 v.1.2.2.2.2.2.1 v.1.2.2.2.2.2.2.1 v.2.1.1 v.2.1.2.1 v.2.2.1.1 (fun y0 y1 y2 => K (.exit 0) ⟨[(6, .c (.int .i64 y0)), (7, .c (.own 768)), (8, .c (.own 832))], [(768, ⟨2, .int .i64, y1, 99, none⟩), (832, ⟨4, .bool, y2, 99, none⟩)], [], [], []⟩) (fun y0 y1 => K .ret ⟨[(4, .c (.own 128)), (5, .c (.bool y0))], [(128, ⟨2, .int .i64, y1, 99, none⟩)], [], [], []⟩)
theorem impl_widths.l13_ok : ∀ n v K, impl_widths.l13.u n v K → loopM C X0 n 151 13 (impl_widths.l13.s.fill v) K :=
 loop_tell hX (fn := Tryz.f151) (c := bodyOf Tryz.f151) (a := loopOf Tryz.f151 13) (li := liOf (C.fi 151).loops 13) (by kernel_rfl) (by kernel_rfl) (of_decide_eq_true rfl) (by kernel_rfl) (by kernel_rfl) (T := impl_widths.l13.s) (u := impl_widths.l13.u) (fun _ _ h => h) (call := D57) (lp := fun n => noL) (D57_ok hX) (fun n => noL_ok) (fun n v K => by kernel_rfl)
theorem impl_widths.l6_ok : ∀ n v K, impl_widths.l6.u n v K → loopM C X0 n 151 6 (impl_widths.l6.s.fill v) K :=
 loop_tell hX (fn := Tryz.f151) (c := bodyOf Tryz.f151) (a := loopOf Tryz.f151 6) (li := liOf (C.fi 151).loops 6) (by kernel_rfl) (by kernel_rfl) (of_decide_eq_true rfl) (by kernel_rfl) (by kernel_rfl) (T := impl_widths.l6.s) (u := impl_widths.l6.u) (fun _ _ h => h) (call := D57) (lp := fun n => orL 13 impl_widths.l13.s (impl_widths.l13.u n) noL) (D57_ok hX) (fun n => (orL_ok (impl_widths.l13_ok hX n) noL_ok)) (fun n v K => by kernel_rfl)
theorem impl_widths_ok : ∀ n v K, impl_widths.u n v K → callM C X0 n 151 (fillA impl_widths.a v) K :=
 call_tell hX (fn := Tryz.f151) (c := bodyOf Tryz.f151) (by kernel_rfl) (by kernel_rfl) (A := impl_widths.a) (u := impl_widths.u) (fun _ _ h => h) (call := D57) (lp := fun n => orL 6 impl_widths.l6.s (impl_widths.l6.u n) noL) (D57_ok hX) (fun n => (orL_ok (impl_widths.l6_ok hX n) noL_ok)) (fun n v K => by kernel_rfl)
def D58 (n : Nat) : CallF := orC 151 impl_widths.a (impl_widths.u n) (D57 n)
theorem D58_ok : ∀ n g a K, D58 n g a K → callM C X0 n g a K := fun n => orC_ok (impl_widths_ok hX n) (D57_ok hX n)
abbrev impl_widthOf.a : List TS := [.c (.o (.dat 95 (.prod .str (.int .i64)))), .a [.o (.dat 145 (.prod (.int .i64) (.prod (.int .i64) (.prod (.int .i64) (.prod (.int .i64) (.prod (.int .i64) (.prod (.sl 150 (.int .u64)) (.sl 2 (.int .i64)))))))))]]
def impl_widthOf.u (n : Nat) (v : VA impl_widthOf.a) (K : RES → Prop) : Prop := impl_widthOf.c n v.1 v.2.1.1 (fun r0 => K ⟨.c (.int .i64 r0), []⟩)
theorem impl_widthOf_ok : ∀ n v K, impl_widthOf.u n v K → callM C X0 n 115 (fillA impl_widthOf.a v) K :=
 call_tell hX (fn := Tryz.f115) (c := bodyOf Tryz.f115) (by kernel_rfl) (by kernel_rfl) (A := impl_widthOf.a) (u := impl_widthOf.u) (fun _ _ h => h) (call := D58) (lp := fun n => noL) (D58_ok hX) (fun n => noL_ok) (fun n v K => by kernel_rfl)
def D59 (n : Nat) : CallF := orC 115 impl_widthOf.a (impl_widthOf.u n) (D58 n)
theorem D59_ok : ∀ n g a K, D59 n g a K → callM C X0 n g a K := fun n => orC_ok (impl_widthOf_ok hX n) (D58_ok hX n)
abbrev impl_literalsOk.a : List TS := [.c (.o (.dat 95 (.prod .str (.int .i64)))), .c (.o (.dat 114 (.prod (.int .i64) (.prod .bool (.prod (.sl 145 (.prod (.int .i64) (.prod (.int .i64) (.prod (.int .i64) (.prod (.int .i64) (.prod (.int .i64) (.prod (.sl 150 (.int .u64)) (.sl 2 (.int .i64))))))))) (.sl 145 (.prod (.int .i64) (.prod (.int .i64) (.prod (.int .i64) (.prod (.int .i64) (.prod (.int .i64) (.prod (.sl 150 (.int .u64)) (.sl 2 (.int .i64))))))))))))))]
def impl_literalsOk.u (n : Nat) (v : VA impl_literalsOk.a) (K : RES → Prop) : Prop := impl_literalsOk.c n v.1 v.2.1 (fun r0 => K ⟨.c (.bool r0), []⟩)
abbrev impl_literalsOk.l5.s : ST := ⟨[(0, .c (.o (.dat 95 (.prod .str (.int .i64))))), (5, .c (.o (.int .i64))), (12, .c (.o (.dat 114 (.prod (.int .i64) (.prod .bool (.prod (.sl 145 (.prod (.int .i64) (.prod (.int .i64) (.prod (.int .i64) (.prod (.int .i64) (.prod (.int .i64) (.prod (.sl 150 (.int .u64)) (.sl 2 (.int .i64))))))))) (.sl 145 (.prod (.int .i64) (.prod (.int .i64) (.prod (.int .i64) (.prod (.int .i64) (.prod (.int .i64) (.prod (.sl 150 (.int .u64)) (.sl 2 (.int .i64))))))))))))))), (13, .c (.o (.int .i64))), (14, .c (.o (.int .i64)))], [], [], [], []⟩
def impl_literalsOk.l5.u (n : Nat) (v : impl_literalsOk.l5.s.V) (K : X → St → Prop) : Prop := impl_literalsOk.l5 n v.1.1 v.1.2.2.1 v.1.2.2.2.1 v.1.2.1 v.1.2.2.2.2.1 (K (.exit 0) ⟨[], [], [], [], []⟩) (fun y0 => K .ret ⟨[(4, .c (.bool y0))], [], [], [], []⟩)
theorem impl_literalsOk.l5_ok : ∀ n v K, impl_literalsOk.l5.u n v K → loopM C X0 n 73 5 (impl_literalsOk.l5.s.fill v) K :=
 loop_tell hX (fn := Tryz.f73) (c := bodyOf Tryz.f73) (a := loopOf Tryz.f73 5) (li := liOf (C.fi 73).loops 5) (by kernel_rfl) (by kernel_rfl) (of_decide_eq_true rfl) (by kernel_rfl) (by kernel_rfl) (T := impl_literalsOk.l5.s) (u := impl_literalsOk.l5.u) (fun _ _ h => h) (call := D59) (lp := fun n => noL) (D59_ok hX) (fun n => noL_ok) (fun n v K => by kernel_rfl)
theorem impl_literalsOk_ok : ∀ n v K, impl_literalsOk.u n v K → callM C X0 n 73 (fillA impl_literalsOk.a v) K :=
 call_tell hX (fn := Tryz.f73) (c := bodyOf Tryz.f73) (by kernel_rfl) (by kernel_rfl) (A := impl_literalsOk.a) (u := impl_literalsOk.u) (fun _ _ h => h) (call := D59) (lp := fun n => orL 5 impl_literalsOk.l5.s (impl_literalsOk.l5.u n) noL) (D59_ok hX) (fun n => (orL_ok (impl_literalsOk.l5_ok hX n) noL_ok)) (fun n v K => by kernel_rfl)
def D60 (n : Nat) : CallF := orC 73 impl_literalsOk.a (impl_literalsOk.u n) (D59 n)
theorem D60_ok : ∀ n g a K, D60 n g a K → callM C X0 n g a K := fun n => orC_ok (impl_literalsOk_ok hX n) (D59_ok hX n)
abbrev impl_Session_all.a : List TS := [.c (.o (.pdat 61 (.prod (.sl 95 (.prod .str (.int .i64))) (.prod (.sl 126 (.prod (.int .i64) (.sl 114 (.prod (.int .i64) (.prod .bool (.prod (.sl 145 (.prod (.int .i64) (.prod (.int .i64) (.prod (.int .i64) (.prod (.int .i64) (.prod (.int .i64) (.prod (.sl 150 (.int .u64)) (.sl 2 (.int .i64))))))))) (.sl 145 (.prod (.int .i64) (.prod (.int .i64) (.prod (.int .i64) (.prod (.int .i64) (.prod (.int .i64) (.prod (.sl 150 (.int .u64)) (.sl 2 (.int .i64))))))))))))))) (.int .i64))) 0))]
def impl_Session_all.u (n : Nat) (v : VA impl_Session_all.a) (K : RES → Prop) : Prop := impl_Session_all.c n v.1 (fun r0 => K ⟨.c (.row ⟨114, .prod (.int .i64) (.prod .bool (.prod (.sl 145 (.prod (.int .i64) (.prod (.int .i64) (.prod (.int .i64) (.prod (.int .i64) (.prod (.int .i64) (.prod (.sl 150 (.int .u64)) (.sl 2 (.int .i64))))))))) (.sl 145 (.prod (.int .i64) (.prod (.int .i64) (.prod (.int .i64) (.prod (.int .i64) (.prod (.int .i64) (.prod (.sl 150 (.int .u64)) (.sl 2 (.int .i64))))))))))), r0, 1, none⟩), []⟩)
abbrev impl_Session_all.l3.s : ST := ⟨[(3, .c (.o (.own 96))), (10, .c (.o (.dat 126 (.prod (.int .i64) (.sl 114 (.prod (.int .i64) (.prod .bool (.prod (.sl 145 (.prod (.int .i64) (.prod (.int .i64) (.prod (.int .i64) (.prod (.int .i64) (.prod (.int .i64) (.prod (.sl 150 (.int .u64)) (.sl 2 (.int .i64))))))))) (.sl 145 (.prod (.int .i64) (.prod (.int .i64) (.prod (.int .i64) (.prod (.int .i64) (.prod (.int .i64) (.prod (.sl 150 (.int .u64)) (.sl 2 (.int .i64))))))))))))))))), (11, .c (.o (.int .i64))), (12, .c (.o (.int .i64)))], [⟨96, 114, .prod (.int .i64) (.prod .bool (.prod (.sl 145 (.prod (.int .i64) (.prod (.int .i64) (.prod (.int .i64) (.prod (.int .i64) (.prod (.int .i64) (.prod (.sl 150 (.int .u64)) (.sl 2 (.int .i64))))))))) (.sl 145 (.prod (.int .i64) (.prod (.int .i64) (.prod (.int .i64) (.prod (.int .i64) (.prod (.int .i64) (.prod (.sl 150 (.int .u64)) (.sl 2 (.int .i64))))))))))), 1⟩], [], [], []⟩
def impl_Session_all.l3.u (n : Nat) (v : impl_Session_all.l3.s.V) (K : X → St → Prop) : Prop := impl_Session_all.l3 n v.1.2.1 v.1.2.2.1 v.1.2.2.2.1 v.2.1.1 (fun y0 => K (.exit 0) ⟨[(3, .c (.own 96))], [(96, ⟨114, .prod (.int .i64) (.prod .bool (.prod (.sl 145 (.prod (.int .i64) (.prod (.int .i64) (.prod (.int .i64) (.prod (.int .i64) (.prod (.int .i64) (.prod (.sl 150 (.int .u64)) (.sl 2 (.int .i64))))))))) (.sl 145 (.prod (.int .i64) (.prod (.int .i64) (.prod (.int .i64) (.prod (.int .i64) (.prod (.int .i64) (.prod (.sl 150 (.int .u64)) (.sl 2 (.int .i64))))))))))), y0, 1, none⟩)], [], [], []⟩)
theorem impl_Session_all.l3_ok : ∀ n v K, impl_Session_all.l3.u n v K → loopM C X0 n 127 3 (impl_Session_all.l3.s.fill v) K :=
 loop_tell hX (fn := Tryz.f127) (c := bodyOf Tryz.f127) (a := loopOf Tryz.f127 3) (li := liOf (C.fi 127).loops 3) (by kernel_rfl) (by kernel_rfl) (of_decide_eq_true rfl) (by kernel_rfl) (by kernel_rfl) (T := impl_Session_all.l3.s) (u := impl_Session_all.l3.u) (fun _ _ h => h) (call := D60) (lp := fun n => noL) (D60_ok hX) (fun n => noL_ok) (fun n v K => by kernel_rfl)
theorem impl_Session_all_ok : ∀ n v K, impl_Session_all.u n v K → callM C X0 n 127 (fillA impl_Session_all.a v) K :=
 call_tell hX (fn := Tryz.f127) (c := bodyOf Tryz.f127) (by kernel_rfl) (by kernel_rfl) (A := impl_Session_all.a) (u := impl_Session_all.u) (fun _ _ h => h) (call := D60) (lp := fun n => orL 3 impl_Session_all.l3.s (impl_Session_all.l3.u n) noL) (D60_ok hX) (fun n => (orL_ok (impl_Session_all.l3_ok hX n) noL_ok)) (fun n v K => by kernel_rfl)
def D61 (n : Nat) : CallF := orC 127 impl_Session_all.a (impl_Session_all.u n) (D60 n)
theorem D61_ok : ∀ n g a K, D61 n g a K → callM C X0 n g a K := fun n => orC_ok (impl_Session_all_ok hX n) (D60_ok hX n)
abbrev impl_SessionOk.a : List TS := [.a [.o (.dat 95 (.prod .str (.int .i64))), .o (.dat 126 (.prod (.int .i64) (.sl 114 (.prod (.int .i64) (.prod .bool (.prod (.sl 145 (.prod (.int .i64) (.prod (.int .i64) (.prod (.int .i64) (.prod (.int .i64) (.prod (.int .i64) (.prod (.sl 150 (.int .u64)) (.sl 2 (.int .i64))))))))) (.sl 145 (.prod (.int .i64) (.prod (.int .i64) (.prod (.int .i64) (.prod (.int .i64) (.prod (.int .i64) (.prod (.sl 150 (.int .u64)) (.sl 2 (.int .i64))))))))))))))), .o (.int .i64)]]
def impl_SessionOk.u (n : Nat) (v : VA impl_SessionOk.a) (K : RES → Prop) : Prop := impl_SessionOk.c n v.1.1 v.1.2.1 v.1.2.2.1 (fun r0 => K ⟨.c (.bool r0), []⟩)
abbrev impl_SessionOk.l5.s : ST := ⟨[(1, .c (.o (.pbox 1 0))), (3, .c (.o (.int .i64))), (34, .c (.o (.dat 126 (.prod (.int .i64) (.sl 114 (.prod (.int .i64) (.prod .bool (.prod (.sl 145 (.prod (.int .i64) (.prod (.int .i64) (.prod (.int .i64) (.prod (.int .i64) (.prod (.int .i64) (.prod (.sl 150 (.int .u64)) (.sl 2 (.int .i64))))))))) (.sl 145 (.prod (.int .i64) (.prod (.int .i64) (.prod (.int .i64) (.prod (.int .i64) (.prod (.int .i64) (.prod (.sl 150 (.int .u64)) (.sl 2 (.int .i64))))))))))))))))), (35, .c (.o (.int .i64))), (36, .c (.o (.int .i64)))], [], [⟨1, 61, [.o (.dat 95 (.prod .str (.int .i64))), .o (.dat 126 (.prod (.int .i64) (.sl 114 (.prod (.int .i64) (.prod .bool (.prod (.sl 145 (.prod (.int .i64) (.prod (.int .i64) (.prod (.int .i64) (.prod (.int .i64) (.prod (.int .i64) (.prod (.sl 150 (.int .u64)) (.sl 2 (.int .i64))))))))) (.sl 145 (.prod (.int .i64) (.prod (.int .i64) (.prod (.int .i64) (.prod (.int .i64) (.prod (.int .i64) (.prod (.sl 150 (.int .u64)) (.sl 2 (.int .i64))))))))))))))), .o (.int .i64)], false⟩], [], []⟩
def impl_SessionOk.l5.u (n : Nat) (v : impl_SessionOk.l5.s.V) (K : X → St → Prop) : Prop := impl_SessionOk.l5 n v.1.2.2.1 v.1.2.2.2.1 v.2.2.1.1 v.2.2.1.2.1 v.2.2.1.2.2.1 v.1.2.1 v.1.2.2.2.2.1 (fun y0 y1 y2 => K (.exit 0) ⟨[(1, .c (.pbox 1 0))], [], [(1, ⟨61, [.dat 95 (.prod .str (.int .i64)) y0, .dat 126 (.prod (.int .i64) (.sl 114 (.prod (.int .i64) (.prod .bool (.prod (.sl 145 (.prod (.int .i64) (.prod (.int .i64) (.prod (.int .i64) (.prod (.int .i64) (.prod (.int .i64) (.prod (.sl 150 (.int .u64)) (.sl 2 (.int .i64))))))))) (.sl 145 (.prod (.int .i64) (.prod (.int .i64) (.prod (.int .i64) (.prod (.int .i64) (.prod (.int .i64) (.prod (.sl 150 (.int .u64)) (.sl 2 (.int .i64)))))))))))))) y1, .int .i64 y2], false⟩)], [], []⟩) (fun y0 => K .ret ⟨[(2, .c (.bool y0))], [], [], [], []⟩)
abbrev impl_SessionOk.l12.s : ST := ⟨[(1, .c (.o (.pbox 1 0))), (62, .c (.o (.dat 126 (.prod (.int .i64) (.sl 114 (.prod (.int .i64) (.prod .bool (.prod (.sl 145 (.prod (.int .i64) (.prod (.int .i64) (.prod (.int .i64) (.prod (.int .i64) (.prod (.int .i64) (.prod (.sl 150 (.int .u64)) (.sl 2 (.int .i64))))))))) (.sl 145 (.prod (.int .i64) (.prod (.int .i64) (.prod (.int .i64) (.prod (.int .i64) (.prod (.int .i64) (.prod (.sl 150 (.int .u64)) (.sl 2 (.int .i64))))))))))))))))), (63, .c (.o (.int .i64))), (64, .c (.o (.int .i64)))], [], [⟨1, 61, [.o (.dat 95 (.prod .str (.int .i64))), .o (.dat 126 (.prod (.int .i64) (.sl 114 (.prod (.int .i64) (.prod .bool (.prod (.sl 145 (.prod (.int .i64) (.prod (.int .i64) (.prod (.int .i64) (.prod (.int .i64) (.prod (.int .i64) (.prod (.sl 150 (.int .u64)) (.sl 2 (.int .i64))))))))) (.sl 145 (.prod (.int .i64) (.prod (.int .i64) (.prod (.int .i64) (.prod (.int .i64) (.prod (.int .i64) (.prod (.sl 150 (.int .u64)) (.sl 2 (.int .i64))))))))))))))), .o (.int .i64)], false⟩], [], []⟩
def impl_SessionOk.l12.u (n : Nat) (v : impl_SessionOk.l12.s.V) (K : X → St → Prop) : Prop := impl_SessionOk.l12 n v.1.2.1 v.1.2.2.1 v.2.2.1.1 v.2.2.1.2.1 v.2.2.1.2.2.1 v.1.2.2.2.1 (fun y0 y1 y2 => K (.exit 2) ⟨[(1, .c (.pbox 1 0))], [], [(1, ⟨61, [.dat 95 (.prod .str (.int .i64)) y0, .dat 126 (.prod (.int .i64) (.sl 114 (.prod (.int .i64) (.prod .bool (.prod (.sl 145 (.prod (.int .i64) (.prod (.int .i64) (.prod (.int .i64) (.prod (.int .i64) (.prod (.int .i64) (.prod (.sl 150 (.int .u64)) (.sl 2 (.int .i64))))))))) (.sl 145 (.prod (.int .i64) (.prod (.int .i64) (.prod (.int .i64) (.prod (.int .i64) (.prod (.int .i64) (.prod (.sl 150 (.int .u64)) (.sl 2 (.int .i64)))))))))))))) y1, .int .i64 y2], false⟩)], [], []⟩) (fun y0 => K .ret ⟨[(2, .c (.bool y0))], [], [], [], []⟩)
abbrev impl_SessionOk.l21.s : ST := ⟨[(1, .c (.o (.pbox 1 0))), (8, .c (.o (.own 2528))), (83, .c (.o (.own 2528))), (84, .c (.o (.int .i64))), (85, .c (.o (.int .i64)))], [⟨2528, 114, .prod (.int .i64) (.prod .bool (.prod (.sl 145 (.prod (.int .i64) (.prod (.int .i64) (.prod (.int .i64) (.prod (.int .i64) (.prod (.int .i64) (.prod (.sl 150 (.int .u64)) (.sl 2 (.int .i64))))))))) (.sl 145 (.prod (.int .i64) (.prod (.int .i64) (.prod (.int .i64) (.prod (.int .i64) (.prod (.int .i64) (.prod (.sl 150 (.int .u64)) (.sl 2 (.int .i64))))))))))), 1⟩], [⟨1, 61, [.o (.dat 95 (.prod .str (.int .i64))), .o (.dat 126 (.prod (.int .i64) (.sl 114 (.prod (.int .i64) (.prod .bool (.prod (.sl 145 (.prod (.int .i64) (.prod (.int .i64) (.prod (.int .i64) (.prod (.int .i64) (.prod (.int .i64) (.prod (.sl 150 (.int .u64)) (.sl 2 (.int .i64))))))))) (.sl 145 (.prod (.int .i64) (.prod (.int .i64) (.prod (.int .i64) (.prod (.int .i64) (.prod (.int .i64) (.prod (.sl 150 (.int .u64)) (.sl 2 (.int .i64))))))))))))))), .o (.int .i64)], true⟩], [], []⟩
def impl_SessionOk.l21.u (n : Nat) (v : impl_SessionOk.l21.s.V) (K : X → St → Prop) : Prop := impl_SessionOk.l21 n v.1.2.2.2.1 v.2.1.1 v.2.2.1.1 v.2.2.1.2.1 v.2.2.1.2.2.1 v.1.2.2.2.2.1 (K (.exit 4) ⟨[], [], [], [], []⟩) (fun y0 => K .ret ⟨[(2, .c (.bool y0))], [], [], [], []⟩)
theorem impl_SessionOk.l5_ok : ∀ n v K, impl_SessionOk.l5.u n v K → loopM C X0 n 84 5 (impl_SessionOk.l5.s.fill v) K :=
 loop_tell hX (fn := Tryz.f84) (c := bodyOf Tryz.f84) (a := loopOf Tryz.f84 5) (li := liOf (C.fi 84).loops 5) (by kernel_rfl) (by kernel_rfl) (of_decide_eq_true rfl) (by kernel_rfl) (by kernel_rfl) (T := impl_SessionOk.l5.s) (u := impl_SessionOk.l5.u) (fun _ _ h => h) (call := D61) (lp := fun n => noL) (D61_ok hX) (fun n => noL_ok) (fun n v K => by kernel_rfl)
theorem impl_SessionOk.l12_ok : ∀ n v K, impl_SessionOk.l12.u n v K → loopM C X0 n 84 12 (impl_SessionOk.l12.s.fill v) K :=
 loop_tell hX (fn := Tryz.f84) (c := bodyOf Tryz.f84) (a := loopOf Tryz.f84 12) (li := liOf (C.fi 84).loops 12) (by kernel_rfl) (by kernel_rfl) (of_decide_eq_true rfl) (by kernel_rfl) (by kernel_rfl) (T := impl_SessionOk.l12.s) (u := impl_SessionOk.l12.u) (fun _ _ h => h) (call := D61) (lp := fun n => noL) (D61_ok hX) (fun n => noL_ok) (fun n v K => by kernel_rfl)
theorem impl_SessionOk.l21_ok : ∀ n v K, impl_SessionOk.l21.u n v K → loopM C X0 n 84 21 (impl_SessionOk.l21.s.fill v) K :=
 loop_tell hX (fn := Tryz.f84) (c := bodyOf Tryz.f84) (a := loopOf Tryz.f84 21) (li := liOf (C.fi 84).loops 21) (by kernel_rfl) (by kernel_rfl) (of_decide_eq_true rfl) (by kernel_rfl) (by kernel_rfl) (T := impl_SessionOk.l21.s) (u := impl_SessionOk.l21.u) (fun _ _ h => h) (call := D61) (lp := fun n => noL) (D61_ok hX) (fun n => noL_ok) (fun n v K => by kernel_rfl)
theorem impl_SessionOk_ok : ∀ n v K, impl_SessionOk.u n v K → callM C X0 n 84 (fillA impl_SessionOk.a v) K :=
 call_tell hX (fn := Tryz.f84) (c := bodyOf Tryz.f84) (by kernel_rfl) (by kernel_rfl) (A := impl_SessionOk.a) (u := impl_SessionOk.u) (fun _ _ h => h) (call := D61) (lp := fun n => orL 5 impl_SessionOk.l5.s (impl_SessionOk.l5.u n) (orL 12 impl_SessionOk.l12.s (impl_SessionOk.l12.u n) (orL 21 impl_SessionOk.l21.s (impl_SessionOk.l21.u n) noL))) (D61_ok hX) (fun n => (orL_ok (impl_SessionOk.l5_ok hX n) (orL_ok (impl_SessionOk.l12_ok hX n) (orL_ok (impl_SessionOk.l21_ok hX n) noL_ok)))) (fun n v K => by kernel_rfl)
def D62 (n : Nat) : CallF := orC 84 impl_SessionOk.a (impl_SessionOk.u n) (D61 n)
theorem D62_ok : ∀ n g a K, D62 n g a K → callM C X0 n g a K := fun n => orC_ok (impl_SessionOk_ok hX n) (D61_ok hX n)
end
end Go.Vsi
end

section
set_option linter.unusedVariables false
namespace Go.Vsi
open Go.Proofs
section
variable {X0 : CallF} (hX : CallF.Mono X0)
include hX
abbrev slices_Clone_Decl.a : List TS := [.c (.o (.dat 95 (.prod .str (.int .i64))))]
def slices_Clone_Decl.u (n : Nat) (v : VA slices_Clone_Decl.a) (K : RES → Prop) : Prop := slices_Clone_Decl.c n v.1 (fun r0 => K ⟨.c (.row ⟨95, .prod .str (.int .i64), r0, 99, none⟩), []⟩)
theorem slices_Clone_Decl_ok : ∀ n v K, slices_Clone_Decl.u n v K → callM C X0 n 128 (fillA slices_Clone_Decl.a v) K :=
 call_tell hX (fn := Tryz.f128) (c := bodyOf Tryz.f128) (by kernel_rfl) (by kernel_rfl) (A := slices_Clone_Decl.a) (u := slices_Clone_Decl.u) (fun _ _ h => h) (call := D62) (lp := fun n => noL) (D62_ok hX) (fun n => noL_ok) (fun n v K => by kernel_rfl)
def D63 (n : Nat) : CallF := orC 128 slices_Clone_Decl.a (slices_Clone_Decl.u n) (D62 n)
theorem D63_ok : ∀ n g a K, D63 n g a K → callM C X0 n g a K := fun n => orC_ok (slices_Clone_Decl_ok hX n) (D62_ok hX n)
abbrev slices_Clone_uint64.a : List TS := [.c (.o (.dat 150 (.int .u64)))]
def slices_Clone_uint64.u (n : Nat) (v : VA slices_Clone_uint64.a) (K : RES → Prop) : Prop := slices_Clone_uint64.c n v.1 (fun r0 => K ⟨.c (.row ⟨150, .int .u64, r0, 99, none⟩), []⟩)
theorem slices_Clone_uint64_ok : ∀ n v K, slices_Clone_uint64.u n v K → callM C X0 n 116 (fillA slices_Clone_uint64.a v) K :=
 call_tell hX (fn := Tryz.f116) (c := bodyOf Tryz.f116) (by kernel_rfl) (by kernel_rfl) (A := slices_Clone_uint64.a) (u := slices_Clone_uint64.u) (fun _ _ h => h) (call := D63) (lp := fun n => noL) (D63_ok hX) (fun n => noL_ok) (fun n v K => by kernel_rfl)
def D64 (n : Nat) : CallF := orC 116 slices_Clone_uint64.a (slices_Clone_uint64.u n) (D63 n)
theorem D64_ok : ∀ n g a K, D64 n g a K → callM C X0 n g a K := fun n => orC_ok (slices_Clone_uint64_ok hX n) (D63_ok hX n)
abbrev impl_cloneBits.a : List TS := [.a [.o (.int .i64), .o (.dat 150 (.int .u64))]]
def impl_cloneBits.u (n : Nat) (v : VA impl_cloneBits.a) (K : RES → Prop) : Prop := impl_cloneBits.c n v.1.1 v.1.2.1 (fun r0 r1 => K ⟨.agg [.int .i64 r0, .row ⟨150, .int .u64, r1, 99, none⟩], []⟩)
theorem impl_cloneBits_ok : ∀ n v K, impl_cloneBits.u n v K → callM C X0 n 60 (fillA impl_cloneBits.a v) K :=
 call_tell hX (fn := Tryz.f60) (c := bodyOf Tryz.f60) (by kernel_rfl) (by kernel_rfl) (A := impl_cloneBits.a) (u := impl_cloneBits.u) (fun _ _ h => h) (call := D64) (lp := fun n => noL) (D64_ok hX) (fun n => noL_ok) (fun n v K => by kernel_rfl)
def D65 (n : Nat) : CallF := orC 60 impl_cloneBits.a (impl_cloneBits.u n) (D64 n)
theorem D65_ok : ∀ n g a K, D65 n g a K → callM C X0 n g a K := fun n => orC_ok (impl_cloneBits_ok hX n) (D64_ok hX n)
abbrev slices_Clone_int64.a : List TS := [.c (.o (.dat 2 (.int .i64)))]
def slices_Clone_int64.u (n : Nat) (v : VA slices_Clone_int64.a) (K : RES → Prop) : Prop := slices_Clone_int64.c n v.1 (fun r0 => K ⟨.c (.row ⟨2, .int .i64, r0, 99, none⟩), []⟩)
theorem slices_Clone_int64_ok : ∀ n v K, slices_Clone_int64.u n v K → callM C X0 n 184 (fillA slices_Clone_int64.a v) K :=
 call_tell hX (fn := Tryz.f184) (c := bodyOf Tryz.f184) (by kernel_rfl) (by kernel_rfl) (A := slices_Clone_int64.a) (u := slices_Clone_int64.u) (fun _ _ h => h) (call := D65) (lp := fun n => noL) (D65_ok hX) (fun n => noL_ok) (fun n v K => by kernel_rfl)
def D66 (n : Nat) : CallF := orC 184 slices_Clone_int64.a (slices_Clone_int64.u n) (D65 n)
theorem D66_ok : ∀ n g a K, D66 n g a K → callM C X0 n g a K := fun n => orC_ok (slices_Clone_int64_ok hX n) (D65_ok hX n)
abbrev impl_cloneNode.a : List TS := [.a [.o (.int .i64), .o (.int .i64), .o (.int .i64), .o (.int .i64), .o (.int .i64), .o (.dat 150 (.int .u64)), .o (.dat 2 (.int .i64))]]
def impl_cloneNode.u (n : Nat) (v : VA impl_cloneNode.a) (K : RES → Prop) : Prop := impl_cloneNode.c n v.1.1 v.1.2.1 v.1.2.2.1 v.1.2.2.2.1 v.1.2.2.2.2.1 v.1.2.2.2.2.2.1 v.1.2.2.2.2.2.2.1 (fun r0 r1 r2 r3 r4 r5 r6 => K ⟨.agg [.int .i64 r0, .int .i64 r1, .int .i64 r2, .int .i64 r3, .int .i64 r4, .row ⟨150, .int .u64, r5, 99, none⟩, .row ⟨2, .int .i64, r6, 99, none⟩], []⟩)
theorem impl_cloneNode_ok : ∀ n v K, impl_cloneNode.u n v K → callM C X0 n 178 (fillA impl_cloneNode.a v) K :=
 call_tell hX (fn := Tryz.f178) (c := bodyOf Tryz.f178) (by kernel_rfl) (by kernel_rfl) (A := impl_cloneNode.a) (u := impl_cloneNode.u) (fun _ _ h => h) (call := D66) (lp := fun n => noL) (D66_ok hX) (fun n => noL_ok) (fun n v K => by kernel_rfl)
def D67 (n : Nat) : CallF := orC 178 impl_cloneNode.a (impl_cloneNode.u n) (D66 n)
theorem D67_ok : ∀ n g a K, D67 n g a K → callM C X0 n g a K := fun n => orC_ok (impl_cloneNode_ok hX n) (D66_ok hX n)
abbrev impl_cloneTerm.a : List TS := [.a [.o (.dat 145 (.prod (.int .i64) (.prod (.int .i64) (.prod (.int .i64) (.prod (.int .i64) (.prod (.int .i64) (.prod (.sl 150 (.int .u64)) (.sl 2 (.int .i64)))))))))]]
def impl_cloneTerm.u (n : Nat) (v : VA impl_cloneTerm.a) (K : RES → Prop) : Prop := impl_cloneTerm.c n v.1.1 (fun r0 => K ⟨.agg [.row ⟨145, .prod (.int .i64) (.prod (.int .i64) (.prod (.int .i64) (.prod (.int .i64) (.prod (.int .i64) (.prod (.sl 150 (.int .u64)) (.sl 2 (.int .i64))))))), r0, 99, none⟩], []⟩)
abbrev impl_cloneTerm.l3.s : ST := ⟨[(2, .c (.o (.pbox 2 0))), (3, .c (.o (.pbox 3 0))), (12, .c (.o (.dat 145 (.prod (.int .i64) (.prod (.int .i64) (.prod (.int .i64) (.prod (.int .i64) (.prod (.int .i64) (.prod (.sl 150 (.int .u64)) (.sl 2 (.int .i64))))))))))), (13, .c (.o (.int .i64))), (14, .c (.o (.int .i64)))], [⟨288, 145, .prod (.int .i64) (.prod (.int .i64) (.prod (.int .i64) (.prod (.int .i64) (.prod (.int .i64) (.prod (.sl 150 (.int .u64)) (.sl 2 (.int .i64))))))), 99⟩, ⟨1000064, 145, .prod (.int .i64) (.prod (.int .i64) (.prod (.int .i64) (.prod (.int .i64) (.prod (.int .i64) (.prod (.sl 150 (.int .u64)) (.sl 2 (.int .i64))))))), 99⟩], [⟨2, 89, [.o (.own 1000064)], false⟩, ⟨3, 89, [.o (.own 288)], false⟩], [], []⟩
def impl_cloneTerm.l3.u (n : Nat) (v : impl_cloneTerm.l3.s.V) (K : X → St → Prop) : Prop := impl_cloneTerm.l3 n v.1.2.2.1 v.1.2.2.2.1 v.2.1.2.1 v.1.2.2.2.2.1 v.2.1.1 (fun y0 y1 => K (.exit 0) ⟨[(2, .c (.pbox 2 0)), (3, .c (.pbox 3 0))], [(288, ⟨145, .prod (.int .i64) (.prod (.int .i64) (.prod (.int .i64) (.prod (.int .i64) (.prod (.int .i64) (.prod (.sl 150 (.int .u64)) (.sl 2 (.int .i64))))))), y0, 99, none⟩), (1000064, ⟨145, .prod (.int .i64) (.prod (.int .i64) (.prod (.int .i64) (.prod (.int .i64) (.prod (.int .i64) (.prod (.sl 150 (.int .u64)) (.sl 2 (.int .i64))))))), y1, 99, none⟩)], [(2, ⟨89, [.own 1000064], false⟩), (3, ⟨89, [.own 288], false⟩)], [], []⟩)
theorem impl_cloneTerm.l3_ok : ∀ n v K, impl_cloneTerm.l3.u n v K → loopM C X0 n 160 3 (impl_cloneTerm.l3.s.fill v) K :=
 loop_tell hX (fn := Tryz.f160) (c := bodyOf Tryz.f160) (a := loopOf Tryz.f160 3) (li := liOf (C.fi 160).loops 3) (by kernel_rfl) (by kernel_rfl) (of_decide_eq_true rfl) (by kernel_rfl) (by kernel_rfl) (T := impl_cloneTerm.l3.s) (u := impl_cloneTerm.l3.u) (fun _ _ h => h) (call := D67) (lp := fun n => noL) (D67_ok hX) (fun n => noL_ok) (fun n v K => by kernel_rfl)
theorem impl_cloneTerm_ok : ∀ n v K, impl_cloneTerm.u n v K → callM C X0 n 160 (fillA impl_cloneTerm.a v) K :=
 call_tell hX (fn := Tryz.f160) (c := bodyOf Tryz.f160) (by kernel_rfl) (by kernel_rfl) (A := impl_cloneTerm.a) (u := impl_cloneTerm.u) (fun _ _ h => h) (call := D67) (lp := fun n => orL 3 impl_cloneTerm.l3.s (impl_cloneTerm.l3.u n) noL) (D67_ok hX) (fun n => (orL_ok (impl_cloneTerm.l3_ok hX n) noL_ok)) (fun n v K => by kernel_rfl)
def D68 (n : Nat) : CallF := orC 160 impl_cloneTerm.a (impl_cloneTerm.u n) (D67 n)
theorem D68_ok : ∀ n g a K, D68 n g a K → callM C X0 n g a K := fun n => orC_ok (impl_cloneTerm_ok hX n) (D67_ok hX n)
abbrev impl_cloneLiterals.a : List TS := [.c (.o (.dat 114 (.prod (.int .i64) (.prod .bool (.prod (.sl 145 (.prod (.int .i64) (.prod (.int .i64) (.prod (.int .i64) (.prod (.int .i64) (.prod (.int .i64) (.prod (.sl 150 (.int .u64)) (.sl 2 (.int .i64))))))))) (.sl 145 (.prod (.int .i64) (.prod (.int .i64) (.prod (.int .i64) (.prod (.int .i64) (.prod (.int .i64) (.prod (.sl 150 (.int .u64)) (.sl 2 (.int .i64))))))))))))))]
def impl_cloneLiterals.u (n : Nat) (v : VA impl_cloneLiterals.a) (K : RES → Prop) : Prop := impl_cloneLiterals.c n v.1 (fun r0 => K ⟨.c (.row ⟨114, .prod (.int .i64) (.prod .bool (.prod (.sl 145 (.prod (.int .i64) (.prod (.int .i64) (.prod (.int .i64) (.prod (.int .i64) (.prod (.int .i64) (.prod (.sl 150 (.int .u64)) (.sl 2 (.int .i64))))))))) (.sl 145 (.prod (.int .i64) (.prod (.int .i64) (.prod (.int .i64) (.prod (.int .i64) (.prod (.int .i64) (.prod (.sl 150 (.int .u64)) (.sl 2 (.int .i64))))))))))), r0, 99, none⟩), []⟩)
abbrev impl_cloneLiterals.l3.s : ST := ⟨[(3, .c (.o (.own 256))), (9, .c (.o (.dat 114 (.prod (.int .i64) (.prod .bool (.prod (.sl 145 (.prod (.int .i64) (.prod (.int .i64) (.prod (.int .i64) (.prod (.int .i64) (.prod (.int .i64) (.prod (.sl 150 (.int .u64)) (.sl 2 (.int .i64))))))))) (.sl 145 (.prod (.int .i64) (.prod (.int .i64) (.prod (.int .i64) (.prod (.int .i64) (.prod (.int .i64) (.prod (.sl 150 (.int .u64)) (.sl 2 (.int .i64))))))))))))))), (10, .c (.o (.int .i64))), (11, .c (.o (.int .i64)))], [⟨256, 114, .prod (.int .i64) (.prod .bool (.prod (.sl 145 (.prod (.int .i64) (.prod (.int .i64) (.prod (.int .i64) (.prod (.int .i64) (.prod (.int .i64) (.prod (.sl 150 (.int .u64)) (.sl 2 (.int .i64))))))))) (.sl 145 (.prod (.int .i64) (.prod (.int .i64) (.prod (.int .i64) (.prod (.int .i64) (.prod (.int .i64) (.prod (.sl 150 (.int .u64)) (.sl 2 (.int .i64))))))))))), 99⟩], [], [], []⟩
def impl_cloneLiterals.l3.u (n : Nat) (v : impl_cloneLiterals.l3.s.V) (K : X → St → Prop) : Prop := impl_cloneLiterals.l3 n v.1.2.1 v.1.2.2.1 v.1.2.2.2.1 v.2.1.1 (fun y0 => K (.exit 0) ⟨[(3, .c (.own 256))], [(256, ⟨114, .prod (.int .i64) (.prod .bool (.prod (.sl 145 (.prod (.int .i64) (.prod (.int .i64) (.prod (.int .i64) (.prod (.int .i64) (.prod (.int .i64) (.prod (.sl 150 (.int .u64)) (.sl 2 (.int .i64))))))))) (.sl 145 (.prod (.int .i64) (.prod (.int .i64) (.prod (.int .i64) (.prod (.int .i64) (.prod (.int .i64) (.prod (.sl 150 (.int .u64)) (.sl 2 (.int .i64))))))))))), y0, 99, none⟩)], [], [], []⟩)
theorem impl_cloneLiterals.l3_ok : ∀ n v K, impl_cloneLiterals.l3.u n v K → loopM C X0 n 129 3 (impl_cloneLiterals.l3.s.fill v) K :=
 loop_tell hX (fn := Tryz.f129) (c := bodyOf Tryz.f129) (a := loopOf Tryz.f129 3) (li := liOf (C.fi 129).loops 3) (by kernel_rfl) (by kernel_rfl) (of_decide_eq_true rfl) (by kernel_rfl) (by kernel_rfl) (T := impl_cloneLiterals.l3.s) (u := impl_cloneLiterals.l3.u) (fun _ _ h => h) (call := D68) (lp := fun n => noL) (D68_ok hX) (fun n => noL_ok) (fun n v K => by kernel_rfl)
theorem impl_cloneLiterals_ok : ∀ n v K, impl_cloneLiterals.u n v K → callM C X0 n 129 (fillA impl_cloneLiterals.a v) K :=
 call_tell hX (fn := Tryz.f129) (c := bodyOf Tryz.f129) (by kernel_rfl) (by kernel_rfl) (A := impl_cloneLiterals.a) (u := impl_cloneLiterals.u) (fun _ _ h => h) (call := D68) (lp := fun n => orL 3 impl_cloneLiterals.l3.s (impl_cloneLiterals.l3.u n) noL) (D68_ok hX) (fun n => (orL_ok (impl_cloneLiterals.l3_ok hX n) noL_ok)) (fun n v K => by kernel_rfl)
def D69 (n : Nat) : CallF := orC 129 impl_cloneLiterals.a (impl_cloneLiterals.u n) (D68 n)
theorem D69_ok : ∀ n g a K, D69 n g a K → callM C X0 n g a K := fun n => orC_ok (impl_cloneLiterals_ok hX n) (D68_ok hX n)
abbrev impl_cloneSession.a : List TS := [.a [.o (.dat 95 (.prod .str (.int .i64))), .o (.dat 126 (.prod (.int .i64) (.sl 114 (.prod (.int .i64) (.prod .bool (.prod (.sl 145 (.prod (.int .i64) (.prod (.int .i64) (.prod (.int .i64) (.prod (.int .i64) (.prod (.int .i64) (.prod (.sl 150 (.int .u64)) (.sl 2 (.int .i64))))))))) (.sl 145 (.prod (.int .i64) (.prod (.int .i64) (.prod (.int .i64) (.prod (.int .i64) (.prod (.int .i64) (.prod (.sl 150 (.int .u64)) (.sl 2 (.int .i64))))))))))))))), .o (.int .i64)]]
def impl_cloneSession.u (n : Nat) (v : VA impl_cloneSession.a) (K : RES → Prop) : Prop := impl_cloneSession.c n v.1.1 v.1.2.1 v.1.2.2.1 (fun r0 r1 r2 => K ⟨.agg [.row ⟨95, .prod .str (.int .i64), r0, 99, none⟩, .row ⟨126, .prod (.int .i64) (.sl 114 (.prod (.int .i64) (.prod .bool (.prod (.sl 145 (.prod (.int .i64) (.prod (.int .i64) (.prod (.int .i64) (.prod (.int .i64) (.prod (.int .i64) (.prod (.sl 150 (.int .u64)) (.sl 2 (.int .i64))))))))) (.sl 145 (.prod (.int .i64) (.prod (.int .i64) (.prod (.int .i64) (.prod (.int .i64) (.prod (.int .i64) (.prod (.sl 150 (.int .u64)) (.sl 2 (.int .i64))))))))))))), r1, 99, none⟩, .int .i64 r2], []⟩)
abbrev impl_cloneSession.l3.s : ST := ⟨[(2, .c (.o (.pbox 2 0))), (3, .c (.o (.pbox 3 0))), (17, .c (.o (.dat 126 (.prod (.int .i64) (.sl 114 (.prod (.int .i64) (.prod .bool (.prod (.sl 145 (.prod (.int .i64) (.prod (.int .i64) (.prod (.int .i64) (.prod (.int .i64) (.prod (.int .i64) (.prod (.sl 150 (.int .u64)) (.sl 2 (.int .i64))))))))) (.sl 145 (.prod (.int .i64) (.prod (.int .i64) (.prod (.int .i64) (.prod (.int .i64) (.prod (.int .i64) (.prod (.sl 150 (.int .u64)) (.sl 2 (.int .i64))))))))))))))))), (18, .c (.o (.int .i64))), (19, .c (.o (.int .i64)))], [⟨256, 95, .prod .str (.int .i64), 99⟩, ⟨384, 126, .prod (.int .i64) (.sl 114 (.prod (.int .i64) (.prod .bool (.prod (.sl 145 (.prod (.int .i64) (.prod (.int .i64) (.prod (.int .i64) (.prod (.int .i64) (.prod (.int .i64) (.prod (.sl 150 (.int .u64)) (.sl 2 (.int .i64))))))))) (.sl 145 (.prod (.int .i64) (.prod (.int .i64) (.prod (.int .i64) (.prod (.int .i64) (.prod (.int .i64) (.prod (.sl 150 (.int .u64)) (.sl 2 (.int .i64))))))))))))), 99⟩, ⟨1000064, 95, .prod .str (.int .i64), 99⟩, ⟨1000065, 126, .prod (.int .i64) (.sl 114 (.prod (.int .i64) (.prod .bool (.prod (.sl 145 (.prod (.int .i64) (.prod (.int .i64) (.prod (.int .i64) (.prod (.int .i64) (.prod (.int .i64) (.prod (.sl 150 (.int .u64)) (.sl 2 (.int .i64))))))))) (.sl 145 (.prod (.int .i64) (.prod (.int .i64) (.prod (.int .i64) (.prod (.int .i64) (.prod (.int .i64) (.prod (.sl 150 (.int .u64)) (.sl 2 (.int .i64))))))))))))), 99⟩], [⟨2, 61, [.o (.own 1000064), .o (.own 1000065), .o (.int .i64)], false⟩, ⟨3, 61, [.o (.own 256), .o (.own 384), .o (.int .i64)], false⟩], [], []⟩
def impl_cloneSession.l3.u (n : Nat) (v : impl_cloneSession.l3.s.V) (K : X → St → Prop) : Prop := impl_cloneSession.l3 n v.1.2.2.1 v.1.2.2.2.1 v.2.1.1 v.2.1.2.2.1 v.2.1.2.2.2.1 v.2.2.1.2.2.1 v.2.2.2.1.2.2.1 v.1.2.2.2.2.1 v.2.1.2.1 (fun y0 y1 y2 y3 y4 y5 => K (.exit 0) ⟨[(2, .c (.pbox 2 0)), (3, .c (.pbox 3 0))], [(256, ⟨95, .prod .str (.int .i64), y0, 99, none⟩), (384, ⟨126, .prod (.int .i64) (.sl 114 (.prod (.int .i64) (.prod .bool (.prod (.sl 145 (.prod (.int .i64) (.prod (.int .i64) (.prod (.int .i64) (.prod (.int .i64) (.prod (.int .i64) (.prod (.sl 150 (.int .u64)) (.sl 2 (.int .i64))))))))) (.sl 145 (.prod (.int .i64) (.prod (.int .i64) (.prod (.int .i64) (.prod (.int .i64) (.prod (.int .i64) (.prod (.sl 150 (.int .u64)) (.sl 2 (.int .i64))))))))))))), y1, 99, none⟩), (1000064, ⟨95, .prod .str (.int .i64), y2, 99, none⟩), (1000065, ⟨126, .prod (.int .i64) (.sl 114 (.prod (.int .i64) (.prod .bool (.prod (.sl 145 (.prod (.int .i64) (.prod (.int .i64) (.prod (.int .i64) (.prod (.int .i64) (.prod (.int .i64) (.prod (.sl 150 (.int .u64)) (.sl 2 (.int .i64))))))))) (.sl 145 (.prod (.int .i64) (.prod (.int .i64) (.prod (.int .i64) (.prod (.int .i64) (.prod (.int .i64) (.prod (.sl 150 (.int .u64)) (.sl 2 (.int .i64))))))))))))), y3, 99, none⟩)], [(2, ⟨61, [.own 1000064, .own 1000065, .int .i64 y4], false⟩), (3, ⟨61, [.own 256, .own 384, .int .i64 y5], false⟩)], [], []⟩)
abbrev impl_cloneSession.q2.s : ST := ⟨[(1, .c (.o (.pbox 1 0))), (2, .c (.o (.pbox 2 0))), (3, .c (.o (.pbox 3 0)))], [⟨256, 95, .prod .str (.int .i64), 99⟩, ⟨384, 126, .prod (.int .i64) (.sl 114 (.prod (.int .i64) (.prod .bool (.prod (.sl 145 (.prod (.int .i64) (.prod (.int .i64) (.prod (.int .i64) (.prod (.int .i64) (.prod (.int .i64) (.prod (.sl 150 (.int .u64)) (.sl 2 (.int .i64))))))))) (.sl 145 (.prod (.int .i64) (.prod (.int .i64) (.prod (.int .i64) (.prod (.int .i64) (.prod (.int .i64) (.prod (.sl 150 (.int .u64)) (.sl 2 (.int .i64))))))))))))), 99⟩, ⟨1000064, 95, .prod .str (.int .i64), 99⟩, ⟨1000065, 126, .prod (.int .i64) (.sl 114 (.prod (.int .i64) (.prod .bool (.prod (.sl 145 (.prod (.int .i64) (.prod (.int .i64) (.prod (.int .i64) (.prod (.int .i64) (.prod (.int .i64) (.prod (.sl 150 (.int .u64)) (.sl 2 (.int .i64))))))))) (.sl 145 (.prod (.int .i64) (.prod (.int .i64) (.prod (.int .i64) (.prod (.int .i64) (.prod (.int .i64) (.prod (.sl 150 (.int .u64)) (.sl 2 (.int .i64))))))))))))), 99⟩], [⟨1, 61, [.o (.dat 95 (.prod .str (.int .i64))), .o (.dat 126 (.prod (.int .i64) (.sl 114 (.prod (.int .i64) (.prod .bool (.prod (.sl 145 (.prod (.int .i64) (.prod (.int .i64) (.prod (.int .i64) (.prod (.int .i64) (.prod (.int .i64) (.prod (.sl 150 (.int .u64)) (.sl 2 (.int .i64))))))))) (.sl 145 (.prod (.int .i64) (.prod (.int .i64) (.prod (.int .i64) (.prod (.int .i64) (.prod (.int .i64) (.prod (.sl 150 (.int .u64)) (.sl 2 (.int .i64))))))))))))))), .o (.int .i64)], false⟩, ⟨2, 61, [.o (.own 1000064), .o (.own 1000065), .o (.int .i64)], false⟩, ⟨3, 61, [.o (.own 256), .o (.own 384), .o (.int .i64)], false⟩], [], []⟩
def impl_cloneSession.q2.u (n : Nat) (v : impl_cloneSession.q2.s.V) (K : X → St → Prop) : Prop := impl_cloneSession.q2 n v.2.1.1 v.2.1.2.1 v.2.1.2.2.1 v.2.1.2.2.2.1 v.2.2.1.1 v.2.2.1.2.1 v.2.2.1.2.2.1 v.2.2.2.1.2.2.1 v.2.2.2.2.1.2.2.1 (fun y0 y1 y2 => K .ret ⟨[(2, .c (.pbox 2 0))], [(256, ⟨95, .prod .str (.int .i64), y0, 99, none⟩), (384, ⟨126, .prod (.int .i64) (.sl 114 (.prod (.int .i64) (.prod .bool (.prod (.sl 145 (.prod (.int .i64) (.prod (.int .i64) (.prod (.int .i64) (.prod (.int .i64) (.prod (.int .i64) (.prod (.sl 150 (.int .u64)) (.sl 2 (.int .i64))))))))) (.sl 145 (.prod (.int .i64) (.prod (.int .i64) (.prod (.int .i64) (.prod (.int .i64) (.prod (.int .i64) (.prod (.sl 150 (.int .u64)) (.sl 2 (.int .i64))))))))))))), y1, 99, none⟩)], [(2, ⟨61, [.own 256, .own 384, .int .i64 y2], false⟩)], [], []⟩)
theorem impl_cloneSession.l3_ok : ∀ n v K, impl_cloneSession.l3.u n v K → loopM C X0 n 85 3 (impl_cloneSession.l3.s.fill v) K :=
 loop_tell hX (fn := Tryz.f85) (c := bodyOf Tryz.f85) (a := loopOf Tryz.f85 3) (li := liOf (C.fi 85).loops 3) (by kernel_rfl) (by kernel_rfl) (of_decide_eq_true rfl) (by kernel_rfl) (by kernel_rfl) (T := impl_cloneSession.l3.s) (u := impl_cloneSession.l3.u) (fun _ _ h => h) (call := D69) (lp := fun n => noL) (D69_ok hX) (fun n => noL_ok) (fun n v K => by kernel_rfl)
theorem impl_cloneSession.q2_ok : ∀ n v K, impl_cloneSession.q2.u n v K → loopM C X0 n 85 1000002 (impl_cloneSession.q2.s.fill v) K :=
 cut_tell hX (fn := Tryz.f85) (c := bodyOf Tryz.f85) (a := cutOf Tryz.f85 2) (li := liOf (C.fi 85).loops 1000002) (by kernel_rfl) (by kernel_rfl) (of_decide_eq_true rfl) (by kernel_rfl) (by kernel_rfl) (T := impl_cloneSession.q2.s) (u := impl_cloneSession.q2.u) (fun _ _ h => h) (call := D69) (lp := fun n => orL 3 impl_cloneSession.l3.s (impl_cloneSession.l3.u n) noL) (D69_ok hX) (fun n => (orL_ok (impl_cloneSession.l3_ok hX n) noL_ok)) (fun n v K => by kernel_rfl)
theorem impl_cloneSession_ok : ∀ n v K, impl_cloneSession.u n v K → callM C X0 n 85 (fillA impl_cloneSession.a v) K :=
 call_tell hX (fn := Tryz.f85) (c := bodyOf Tryz.f85) (by kernel_rfl) (by kernel_rfl) (A := impl_cloneSession.a) (u := impl_cloneSession.u) (fun _ _ h => h) (call := D69) (lp := fun n => orL 1000002 impl_cloneSession.q2.s (impl_cloneSession.q2.u n) noL) (D69_ok hX) (fun n => (orL_ok (impl_cloneSession.q2_ok hX n) noL_ok)) (fun n v K => by kernel_rfl)
def D70 (n : Nat) : CallF := orC 85 impl_cloneSession.a (impl_cloneSession.u n) (D69 n)
theorem D70_ok : ∀ n g a K, D70 n g a K → callM C X0 n g a K := fun n => orC_ok (impl_cloneSession_ok hX n) (D69_ok hX n)
abbrev laws_eqDecl.a : List TS := [.a [.o .str, .o (.int .i64)], .a [.o .str, .o (.int .i64)]]
def laws_eqDecl.u (n : Nat) (v : VA laws_eqDecl.a) (K : RES → Prop) : Prop := laws_eqDecl.c n v.1.1 v.1.2.1 v.2.1.1 v.2.1.2.1 (fun r0 => K ⟨.c (.bool r0), []⟩)
theorem laws_eqDecl_ok : ∀ n v K, laws_eqDecl.u n v K → callM C X0 n 63 (fillA laws_eqDecl.a v) K :=
 call_tell hX (fn := Tryz.f63) (c := bodyOf Tryz.f63) (by kernel_rfl) (by kernel_rfl) (A := laws_eqDecl.a) (u := laws_eqDecl.u) (fun _ _ h => h) (call := D70) (lp := fun n => noL) (D70_ok hX) (fun n => noL_ok) (fun n v K => by kernel_rfl)
def D71 (n : Nat) : CallF := orC 63 laws_eqDecl.a (laws_eqDecl.u n) (D70 n)
theorem D71_ok : ∀ n g a K, D71 n g a K → callM C X0 n g a K := fun n => orC_ok (laws_eqDecl_ok hX n) (D70_ok hX n)
abbrev laws_eqDeclS.a : List TS := [.c (.o (.dat 95 (.prod .str (.int .i64)))), .c (.o (.dat 95 (.prod .str (.int .i64))))]
def laws_eqDeclS.u (n : Nat) (v : VA laws_eqDeclS.a) (K : RES → Prop) : Prop := laws_eqDeclS.c n v.1 v.2.1 (fun r0 => K ⟨.c (.bool r0), []⟩)
abbrev laws_eqDeclS.l4.s : ST := ⟨[(0, .c (.o (.dat 95 (.prod .str (.int .i64))))), (1, .c (.o (.dat 95 (.prod .str (.int .i64))))), (5, .c (.o (.int .i64)))], [], [], [], []⟩
def laws_eqDeclS.l4.u (n : Nat) (v : laws_eqDeclS.l4.s.V) (K : X → St → Prop) : Prop := laws_eqDeclS.l4 n v.1.1 v.1.2.1 v.1.2.2.1 (K (.exit 0) ⟨[], [], [], [], []⟩) (fun y0 => K .ret ⟨[(4, .c (.bool y0))], [], [], [], []⟩)
theorem laws_eqDeclS.l4_ok : ∀ n v K, laws_eqDeclS.l4.u n v K → loopM C X0 n 18 4 (laws_eqDeclS.l4.s.fill v) K :=
 loop_tell hX (fn := Tryz.f18) (c := bodyOf Tryz.f18) (a := loopOf Tryz.f18 4) (li := liOf (C.fi 18).loops 4) (by kernel_rfl) (by kernel_rfl) (of_decide_eq_true rfl) (by kernel_rfl) (by kernel_rfl) (T := laws_eqDeclS.l4.s) (u := laws_eqDeclS.l4.u) (fun _ _ h => h) (call := D71) (lp := fun n => noL) (D71_ok hX) (fun n => noL_ok) (fun n v K => by kernel_rfl)
theorem laws_eqDeclS_ok : ∀ n v K, laws_eqDeclS.u n v K → callM C X0 n 18 (fillA laws_eqDeclS.a v) K :=
 call_tell hX (fn := Tryz.f18) (c := bodyOf Tryz.f18) (by kernel_rfl) (by kernel_rfl) (A := laws_eqDeclS.a) (u := laws_eqDeclS.u) (fun _ _ h => h) (call := D71) (lp := fun n => orL 4 laws_eqDeclS.l4.s (laws_eqDeclS.l4.u n) noL) (D71_ok hX) (fun n => (orL_ok (laws_eqDeclS.l4_ok hX n) noL_ok)) (fun n v K => by kernel_rfl)
def D72 (n : Nat) : CallF := orC 18 laws_eqDeclS.a (laws_eqDeclS.u n) (D71 n)
theorem D72_ok : ∀ n g a K, D72 n g a K → callM C X0 n g a K := fun n => orC_ok (laws_eqDeclS_ok hX n) (D71_ok hX n)
abbrev laws_eqUint64S.a : List TS := [.c (.o (.dat 150 (.int .u64))), .c (.o (.dat 150 (.int .u64)))]
def laws_eqUint64S.u (n : Nat) (v : VA laws_eqUint64S.a) (K : RES → Prop) : Prop := laws_eqUint64S.c n v.1 v.2.1 (fun r0 => K ⟨.c (.bool r0), []⟩)
abbrev laws_eqUint64S.l4.s : ST := ⟨[(0, .c (.o (.dat 150 (.int .u64)))), (1, .c (.o (.dat 150 (.int .u64)))), (5, .c (.o (.int .i64)))], [], [], [], []⟩
def laws_eqUint64S.l4.u (n : Nat) (v : laws_eqUint64S.l4.s.V) (K : X → St → Prop) : Prop := laws_eqUint64S.l4 n v.1.1 v.1.2.1 v.1.2.2.1 (K (.exit 0) ⟨[], [], [], [], []⟩) (fun y0 => K .ret ⟨[(4, .c (.bool y0))], [], [], [], []⟩)
theorem laws_eqUint64S.l4_ok : ∀ n v K, laws_eqUint64S.l4.u n v K → loopM C X0 n 118 4 (laws_eqUint64S.l4.s.fill v) K :=
 loop_tell hX (fn := Tryz.f118) (c := bodyOf Tryz.f118) (a := loopOf Tryz.f118 4) (li := liOf (C.fi 118).loops 4) (by kernel_rfl) (by kernel_rfl) (of_decide_eq_true rfl) (by kernel_rfl) (by kernel_rfl) (T := laws_eqUint64S.l4.s) (u := laws_eqUint64S.l4.u) (fun _ _ h => h) (call := D72) (lp := fun n => noL) (D72_ok hX) (fun n => noL_ok) (fun n v K => by kernel_rfl)
theorem laws_eqUint64S_ok : ∀ n v K, laws_eqUint64S.u n v K → callM C X0 n 118 (fillA laws_eqUint64S.a v) K :=
 call_tell hX (fn := Tryz.f118) (c := bodyOf Tryz.f118) (by kernel_rfl) (by kernel_rfl) (A := laws_eqUint64S.a) (u := laws_eqUint64S.u) (fun _ _ h => h) (call := D72) (lp := fun n => orL 4 laws_eqUint64S.l4.s (laws_eqUint64S.l4.u n) noL) (D72_ok hX) (fun n => (orL_ok (laws_eqUint64S.l4_ok hX n) noL_ok)) (fun n v K => by kernel_rfl)
def D73 (n : Nat) : CallF := orC 118 laws_eqUint64S.a (laws_eqUint64S.u n) (D72 n)
theorem D73_ok : ∀ n g a K, D73 n g a K → callM C X0 n g a K := fun n => orC_ok (laws_eqUint64S_ok hX n) (D72_ok hX n)
abbrev laws_eqBits.a : List TS := [.a [.o (.int .i64), .o (.dat 150 (.int .u64))], .a [.o (.int .i64), .o (.dat 150 (.int .u64))]]
def laws_eqBits.u (n : Nat) (v : VA laws_eqBits.a) (K : RES → Prop) : Prop := laws_eqBits.c n v.1.1 v.1.2.1 v.2.1.1 v.2.1.2.1 (fun r0 => K ⟨.c (.bool r0), []⟩)
theorem laws_eqBits_ok : ∀ n v K, laws_eqBits.u n v K → callM C X0 n 62 (fillA laws_eqBits.a v) K :=
 call_tell hX (fn := Tryz.f62) (c := bodyOf Tryz.f62) (by kernel_rfl) (by kernel_rfl) (A := laws_eqBits.a) (u := laws_eqBits.u) (fun _ _ h => h) (call := D73) (lp := fun n => noL) (D73_ok hX) (fun n => noL_ok) (fun n v K => by kernel_rfl)
def D74 (n : Nat) : CallF := orC 62 laws_eqBits.a (laws_eqBits.u n) (D73 n)
theorem D74_ok : ∀ n g a K, D74 n g a K → callM C X0 n g a K := fun n => orC_ok (laws_eqBits_ok hX n) (D73_ok hX n)
abbrev laws_eqInt64S.a : List TS := [.c (.o (.dat 2 (.int .i64))), .c (.o (.dat 2 (.int .i64)))]
def laws_eqInt64S.u (n : Nat) (v : VA laws_eqInt64S.a) (K : RES → Prop) : Prop := laws_eqInt64S.c n v.1 v.2.1 (fun r0 => K ⟨.c (.bool r0), []⟩)
abbrev laws_eqInt64S.l4.s : ST := ⟨[(0, .c (.o (.dat 2 (.int .i64)))), (1, .c (.o (.dat 2 (.int .i64)))), (5, .c (.o (.int .i64)))], [], [], [], []⟩
def laws_eqInt64S.l4.u (n : Nat) (v : laws_eqInt64S.l4.s.V) (K : X → St → Prop) : Prop := laws_eqInt64S.l4 n v.1.1 v.1.2.1 v.1.2.2.1 (K (.exit 0) ⟨[], [], [], [], []⟩) (fun y0 => K .ret ⟨[(4, .c (.bool y0))], [], [], [], []⟩)
theorem laws_eqInt64S.l4_ok : ∀ n v K, laws_eqInt64S.l4.u n v K → loopM C X0 n 28 4 (laws_eqInt64S.l4.s.fill v) K :=
 loop_tell hX (fn := Tryz.f28) (c := bodyOf Tryz.f28) (a := loopOf Tryz.f28 4) (li := liOf (C.fi 28).loops 4) (by kernel_rfl) (by kernel_rfl) (of_decide_eq_true rfl) (by kernel_rfl) (by kernel_rfl) (T := laws_eqInt64S.l4.s) (u := laws_eqInt64S.l4.u) (fun _ _ h => h) (call := D74) (lp := fun n => noL) (D74_ok hX) (fun n => noL_ok) (fun n v K => by kernel_rfl)
theorem laws_eqInt64S_ok : ∀ n v K, laws_eqInt64S.u n v K → callM C X0 n 28 (fillA laws_eqInt64S.a v) K :=
 call_tell hX (fn := Tryz.f28) (c := bodyOf Tryz.f28) (by kernel_rfl) (by kernel_rfl) (A := laws_eqInt64S.a) (u := laws_eqInt64S.u) (fun _ _ h => h) (call := D74) (lp := fun n => orL 4 laws_eqInt64S.l4.s (laws_eqInt64S.l4.u n) noL) (D74_ok hX) (fun n => (orL_ok (laws_eqInt64S.l4_ok hX n) noL_ok)) (fun n v K => by kernel_rfl)
def D75 (n : Nat) : CallF := orC 28 laws_eqInt64S.a (laws_eqInt64S.u n) (D74 n)
theorem D75_ok : ∀ n g a K, D75 n g a K → callM C X0 n g a K := fun n => orC_ok (laws_eqInt64S_ok hX n) (D74_ok hX n)
abbrev laws_eqTNode.a : List TS := [.a [.o (.int .i64), .o (.int .i64), .o (.int .i64), .o (.int .i64), .o (.int .i64), .o (.dat 150 (.int .u64)), .o (.dat 2 (.int .i64))], .a [.o (.int .i64), .o (.int .i64), .o (.int .i64), .o (.int .i64), .o (.int .i64), .o (.dat 150 (.int .u64)), .o (.dat 2 (.int .i64))]]
def laws_eqTNode.u (n : Nat) (v : VA laws_eqTNode.a) (K : RES → Prop) : Prop := laws_eqTNode.c n v.1.1 v.1.2.1 v.1.2.2.1 v.1.2.2.2.1 v.1.2.2.2.2.1 v.1.2.2.2.2.2.1 v.1.2.2.2.2.2.2.1 v.2.1.1 v.2.1.2.1 v.2.1.2.2.1 v.2.1.2.2.2.1 v.2.1.2.2.2.2.1 v.2.1.2.2.2.2.2.1 v.2.1.2.2.2.2.2.2.1 (fun r0 => K ⟨.c (.bool r0), []⟩)
theorem laws_eqTNode_ok : ∀ n v K, laws_eqTNode.u n v K → callM C X0 n 176 (fillA laws_eqTNode.a v) K :=
 call_tell hX (fn := Tryz.f176) (c := bodyOf Tryz.f176) (by kernel_rfl) (by kernel_rfl) (A := laws_eqTNode.a) (u := laws_eqTNode.u) (fun _ _ h => h) (call := D75) (lp := fun n => noL) (D75_ok hX) (fun n => noL_ok) (fun n v K => by kernel_rfl)
def D76 (n : Nat) : CallF := orC 176 laws_eqTNode.a (laws_eqTNode.u n) (D75 n)
theorem D76_ok : ∀ n g a K, D76 n g a K → callM C X0 n g a K := fun n => orC_ok (laws_eqTNode_ok hX n) (D75_ok hX n)
abbrev laws_eqTNodeS.a : List TS := [.c (.o (.dat 145 (.prod (.int .i64) (.prod (.int .i64) (.prod (.int .i64) (.prod (.int .i64) (.prod (.int .i64) (.prod (.sl 150 (.int .u64)) (.sl 2 (.int .i64)))))))))), .c (.o (.dat 145 (.prod (.int .i64) (.prod (.int .i64) (.prod (.int .i64) (.prod (.int .i64) (.prod (.int .i64) (.prod (.sl 150 (.int .u64)) (.sl 2 (.int .i64))))))))))]
def laws_eqTNodeS.u (n : Nat) (v : VA laws_eqTNodeS.a) (K : RES → Prop) : Prop := laws_eqTNodeS.c n v.1 v.2.1 (fun r0 => K ⟨.c (.bool r0), []⟩)
abbrev laws_eqTNodeS.l4.s : ST := ⟨[(0, .c (.o (.dat 145 (.prod (.int .i64) (.prod (.int .i64) (.prod (.int .i64) (.prod (.int .i64) (.prod (.int .i64) (.prod (.sl 150 (.int .u64)) (.sl 2 (.int .i64))))))))))), (1, .c (.o (.dat 145 (.prod (.int .i64) (.prod (.int .i64) (.prod (.int .i64) (.prod (.int .i64) (.prod (.int .i64) (.prod (.sl 150 (.int .u64)) (.sl 2 (.int .i64))))))))))), (5, .c (.o (.int .i64)))], [], [], [], []⟩
def laws_eqTNodeS.l4.u (n : Nat) (v : laws_eqTNodeS.l4.s.V) (K : X → St → Prop) : Prop := laws_eqTNodeS.l4 n v.1.1 v.1.2.1 v.1.2.2.1 (K (.exit 0) ⟨[], [], [], [], []⟩) (fun y0 => K .ret ⟨[(4, .c (.bool y0))], [], [], [], []⟩)
theorem laws_eqTNodeS.l4_ok : ∀ n v K, laws_eqTNodeS.l4.u n v K → loopM C X0 n 157 4 (laws_eqTNodeS.l4.s.fill v) K :=
 loop_tell hX (fn := Tryz.f157) (c := bodyOf Tryz.f157) (a := loopOf Tryz.f157 4) (li := liOf (C.fi 157).loops 4) (by kernel_rfl) (by kernel_rfl) (of_decide_eq_true rfl) (by kernel_rfl) (by kernel_rfl) (T := laws_eqTNodeS.l4.s) (u := laws_eqTNodeS.l4.u) (fun _ _ h => h) (call := D76) (lp := fun n => noL) (D76_ok hX) (fun n => noL_ok) (fun n v K => by kernel_rfl)
theorem laws_eqTNodeS_ok : ∀ n v K, laws_eqTNodeS.u n v K → callM C X0 n 157 (fillA laws_eqTNodeS.a v) K :=
 call_tell hX (fn := Tryz.f157) (c := bodyOf Tryz.f157) (by kernel_rfl) (by kernel_rfl) (A := laws_eqTNodeS.a) (u := laws_eqTNodeS.u) (fun _ _ h => h) (call := D76) (lp := fun n => orL 4 laws_eqTNodeS.l4.s (laws_eqTNodeS.l4.u n) noL) (D76_ok hX) (fun n => (orL_ok (laws_eqTNodeS.l4_ok hX n) noL_ok)) (fun n v K => by kernel_rfl)
def D77 (n : Nat) : CallF := orC 157 laws_eqTNodeS.a (laws_eqTNodeS.u n) (D76 n)
theorem D77_ok : ∀ n g a K, D77 n g a K → callM C X0 n g a K := fun n => orC_ok (laws_eqTNodeS_ok hX n) (D76_ok hX n)
abbrev laws_eqTerm.a : List TS := [.a [.o (.dat 145 (.prod (.int .i64) (.prod (.int .i64) (.prod (.int .i64) (.prod (.int .i64) (.prod (.int .i64) (.prod (.sl 150 (.int .u64)) (.sl 2 (.int .i64)))))))))], .a [.o (.dat 145 (.prod (.int .i64) (.prod (.int .i64) (.prod (.int .i64) (.prod (.int .i64) (.prod (.int .i64) (.prod (.sl 150 (.int .u64)) (.sl 2 (.int .i64)))))))))]]
def laws_eqTerm.u (n : Nat) (v : VA laws_eqTerm.a) (K : RES → Prop) : Prop := laws_eqTerm.c n v.1.1 v.2.1.1 (fun r0 => K ⟨.c (.bool r0), []⟩)
theorem laws_eqTerm_ok : ∀ n v K, laws_eqTerm.u n v K → callM C X0 n 119 (fillA laws_eqTerm.a v) K :=
 call_tell hX (fn := Tryz.f119) (c := bodyOf Tryz.f119) (by kernel_rfl) (by kernel_rfl) (A := laws_eqTerm.a) (u := laws_eqTerm.u) (fun _ _ h => h) (call := D77) (lp := fun n => noL) (D77_ok hX) (fun n => noL_ok) (fun n v K => by kernel_rfl)
def D78 (n : Nat) : CallF := orC 119 laws_eqTerm.a (laws_eqTerm.u n) (D77 n)
theorem D78_ok : ∀ n g a K, D78 n g a K → callM C X0 n g a K := fun n => orC_ok (laws_eqTerm_ok hX n) (D77_ok hX n)
abbrev laws_eqLiteral.a : List TS := [.a [.o (.int .i64), .o .bool, .o (.dat 145 (.prod (.int .i64) (.prod (.int .i64) (.prod (.int .i64) (.prod (.int .i64) (.prod (.int .i64) (.prod (.sl 150 (.int .u64)) (.sl 2 (.int .i64))))))))), .o (.dat 145 (.prod (.int .i64) (.prod (.int .i64) (.prod (.int .i64) (.prod (.int .i64) (.prod (.int .i64) (.prod (.sl 150 (.int .u64)) (.sl 2 (.int .i64)))))))))], .a [.o (.int .i64), .o .bool, .o (.dat 145 (.prod (.int .i64) (.prod (.int .i64) (.prod (.int .i64) (.prod (.int .i64) (.prod (.int .i64) (.prod (.sl 150 (.int .u64)) (.sl 2 (.int .i64))))))))), .o (.dat 145 (.prod (.int .i64) (.prod (.int .i64) (.prod (.int .i64) (.prod (.int .i64) (.prod (.int .i64) (.prod (.sl 150 (.int .u64)) (.sl 2 (.int .i64)))))))))]]
def laws_eqLiteral.u (n : Nat) (v : VA laws_eqLiteral.a) (K : RES → Prop) : Prop := laws_eqLiteral.c n v.1.1 v.1.2.1 v.1.2.2.1 v.1.2.2.2.1 v.2.1.1 v.2.1.2.1 v.2.1.2.2.1 v.2.1.2.2.2.1 (fun r0 => K ⟨.c (.bool r0), []⟩)
theorem laws_eqLiteral_ok : ∀ n v K, laws_eqLiteral.u n v K → callM C X0 n 79 (fillA laws_eqLiteral.a v) K :=
 call_tell hX (fn := Tryz.f79) (c := bodyOf Tryz.f79) (by kernel_rfl) (by kernel_rfl) (A := laws_eqLiteral.a) (u := laws_eqLiteral.u) (fun _ _ h => h) (call := D78) (lp := fun n => noL) (D78_ok hX) (fun n => noL_ok) (fun n v K => by kernel_rfl)
def D79 (n : Nat) : CallF := orC 79 laws_eqLiteral.a (laws_eqLiteral.u n) (D78 n)
theorem D79_ok : ∀ n g a K, D79 n g a K → callM C X0 n g a K := fun n => orC_ok (laws_eqLiteral_ok hX n) (D78_ok hX n)
abbrev laws_eqLiteralS.a : List TS := [.c (.o (.dat 114 (.prod (.int .i64) (.prod .bool (.prod (.sl 145 (.prod (.int .i64) (.prod (.int .i64) (.prod (.int .i64) (.prod (.int .i64) (.prod (.int .i64) (.prod (.sl 150 (.int .u64)) (.sl 2 (.int .i64))))))))) (.sl 145 (.prod (.int .i64) (.prod (.int .i64) (.prod (.int .i64) (.prod (.int .i64) (.prod (.int .i64) (.prod (.sl 150 (.int .u64)) (.sl 2 (.int .i64)))))))))))))), .c (.o (.dat 114 (.prod (.int .i64) (.prod .bool (.prod (.sl 145 (.prod (.int .i64) (.prod (.int .i64) (.prod (.int .i64) (.prod (.int .i64) (.prod (.int .i64) (.prod (.sl 150 (.int .u64)) (.sl 2 (.int .i64))))))))) (.sl 145 (.prod (.int .i64) (.prod (.int .i64) (.prod (.int .i64) (.prod (.int .i64) (.prod (.int .i64) (.prod (.sl 150 (.int .u64)) (.sl 2 (.int .i64))))))))))))))]
def laws_eqLiteralS.u (n : Nat) (v : VA laws_eqLiteralS.a) (K : RES → Prop) : Prop := laws_eqLiteralS.c n v.1 v.2.1 (fun r0 => K ⟨.c (.bool r0), []⟩)
abbrev laws_eqLiteralS.l4.s : ST := ⟨[(0, .c (.o (.dat 114 (.prod (.int .i64) (.prod .bool (.prod (.sl 145 (.prod (.int .i64) (.prod (.int .i64) (.prod (.int .i64) (.prod (.int .i64) (.prod (.int .i64) (.prod (.sl 150 (.int .u64)) (.sl 2 (.int .i64))))))))) (.sl 145 (.prod (.int .i64) (.prod (.int .i64) (.prod (.int .i64) (.prod (.int .i64) (.prod (.int .i64) (.prod (.sl 150 (.int .u64)) (.sl 2 (.int .i64))))))))))))))), (1, .c (.o (.dat 114 (.prod (.int .i64) (.prod .bool (.prod (.sl 145 (.prod (.int .i64) (.prod (.int .i64) (.prod (.int .i64) (.prod (.int .i64) (.prod (.int .i64) (.prod (.sl 150 (.int .u64)) (.sl 2 (.int .i64))))))))) (.sl 145 (.prod (.int .i64) (.prod (.int .i64) (.prod (.int .i64) (.prod (.int .i64) (.prod (.int .i64) (.prod (.sl 150 (.int .u64)) (.sl 2 (.int .i64))))))))))))))), (5, .c (.o (.int .i64)))], [], [], [], []⟩
def laws_eqLiteralS.l4.u (n : Nat) (v : laws_eqLiteralS.l4.s.V) (K : X → St → Prop) : Prop := laws_eqLiteralS.l4 n v.1.1 v.1.2.1 v.1.2.2.1 (K (.exit 0) ⟨[], [], [], [], []⟩) (fun y0 => K .ret ⟨[(4, .c (.bool y0))], [], [], [], []⟩)
theorem laws_eqLiteralS.l4_ok : ∀ n v K, laws_eqLiteralS.l4.u n v K → loopM C X0 n 29 4 (laws_eqLiteralS.l4.s.fill v) K :=
 loop_tell hX (fn := Tryz.f29) (c := bodyOf Tryz.f29) (a := loopOf Tryz.f29 4) (li := liOf (C.fi 29).loops 4) (by kernel_rfl) (by kernel_rfl) (of_decide_eq_true rfl) (by kernel_rfl) (by kernel_rfl) (T := laws_eqLiteralS.l4.s) (u := laws_eqLiteralS.l4.u) (fun _ _ h => h) (call := D79) (lp := fun n => noL) (D79_ok hX) (fun n => noL_ok) (fun n v K => by kernel_rfl)
theorem laws_eqLiteralS_ok : ∀ n v K, laws_eqLiteralS.u n v K → callM C X0 n 29 (fillA laws_eqLiteralS.a v) K :=
 call_tell hX (fn := Tryz.f29) (c := bodyOf Tryz.f29) (by kernel_rfl) (by kernel_rfl) (A := laws_eqLiteralS.a) (u := laws_eqLiteralS.u) (fun _ _ h => h) (call := D79) (lp := fun n => orL 4 laws_eqLiteralS.l4.s (laws_eqLiteralS.l4.u n) noL) (D79_ok hX) (fun n => (orL_ok (laws_eqLiteralS.l4_ok hX n) noL_ok)) (fun n v K => by kernel_rfl)
def D80 (n : Nat) : CallF := orC 29 laws_eqLiteralS.a (laws_eqLiteralS.u n) (D79 n)
theorem D80_ok : ∀ n g a K, D80 n g a K → callM C X0 n g a K := fun n => orC_ok (laws_eqLiteralS_ok hX n) (D79_ok hX n)
abbrev laws_eqScope.a : List TS := [.a [.o (.int .i64), .o (.dat 114 (.prod (.int .i64) (.prod .bool (.prod (.sl 145 (.prod (.int .i64) (.prod (.int .i64) (.prod (.int .i64) (.prod (.int .i64) (.prod (.int .i64) (.prod (.sl 150 (.int .u64)) (.sl 2 (.int .i64))))))))) (.sl 145 (.prod (.int .i64) (.prod (.int .i64) (.prod (.int .i64) (.prod (.int .i64) (.prod (.int .i64) (.prod (.sl 150 (.int .u64)) (.sl 2 (.int .i64)))))))))))))], .a [.o (.int .i64), .o (.dat 114 (.prod (.int .i64) (.prod .bool (.prod (.sl 145 (.prod (.int .i64) (.prod (.int .i64) (.prod (.int .i64) (.prod (.int .i64) (.prod (.int .i64) (.prod (.sl 150 (.int .u64)) (.sl 2 (.int .i64))))))))) (.sl 145 (.prod (.int .i64) (.prod (.int .i64) (.prod (.int .i64) (.prod (.int .i64) (.prod (.int .i64) (.prod (.sl 150 (.int .u64)) (.sl 2 (.int .i64)))))))))))))]]
def laws_eqScope.u (n : Nat) (v : VA laws_eqScope.a) (K : RES → Prop) : Prop := laws_eqScope.c n v.1.1 v.1.2.1 v.2.1.1 v.2.1.2.1 (fun r0 => K ⟨.c (.bool r0), []⟩)
theorem laws_eqScope_ok : ∀ n v K, laws_eqScope.u n v K → callM C X0 n 130 (fillA laws_eqScope.a v) K :=
 call_tell hX (fn := Tryz.f130) (c := bodyOf Tryz.f130) (by kernel_rfl) (by kernel_rfl) (A := laws_eqScope.a) (u := laws_eqScope.u) (fun _ _ h => h) (call := D80) (lp := fun n => noL) (D80_ok hX) (fun n => noL_ok) (fun n v K => by kernel_rfl)
def D81 (n : Nat) : CallF := orC 130 laws_eqScope.a (laws_eqScope.u n) (D80 n)
theorem D81_ok : ∀ n g a K, D81 n g a K → callM C X0 n g a K := fun n => orC_ok (laws_eqScope_ok hX n) (D80_ok hX n)
abbrev laws_eqScopeS.a : List TS := [.c (.o (.dat 126 (.prod (.int .i64) (.sl 114 (.prod (.int .i64) (.prod .bool (.prod (.sl 145 (.prod (.int .i64) (.prod (.int .i64) (.prod (.int .i64) (.prod (.int .i64) (.prod (.int .i64) (.prod (.sl 150 (.int .u64)) (.sl 2 (.int .i64))))))))) (.sl 145 (.prod (.int .i64) (.prod (.int .i64) (.prod (.int .i64) (.prod (.int .i64) (.prod (.int .i64) (.prod (.sl 150 (.int .u64)) (.sl 2 (.int .i64)))))))))))))))), .c (.o (.dat 126 (.prod (.int .i64) (.sl 114 (.prod (.int .i64) (.prod .bool (.prod (.sl 145 (.prod (.int .i64) (.prod (.int .i64) (.prod (.int .i64) (.prod (.int .i64) (.prod (.int .i64) (.prod (.sl 150 (.int .u64)) (.sl 2 (.int .i64))))))))) (.sl 145 (.prod (.int .i64) (.prod (.int .i64) (.prod (.int .i64) (.prod (.int .i64) (.prod (.int .i64) (.prod (.sl 150 (.int .u64)) (.sl 2 (.int .i64))))))))))))))))]
def laws_eqScopeS.u (n : Nat) (v : VA laws_eqScopeS.a) (K : RES → Prop) : Prop := laws_eqScopeS.c n v.1 v.2.1 (fun r0 => K ⟨.c (.bool r0), []⟩)
abbrev laws_eqScopeS.l4.s : ST := ⟨[(0, .c (.o (.dat 126 (.prod (.int .i64) (.sl 114 (.prod (.int .i64) (.prod .bool (.prod (.sl 145 (.prod (.int .i64) (.prod (.int .i64) (.prod (.int .i64) (.prod (.int .i64) (.prod (.int .i64) (.prod (.sl 150 (.int .u64)) (.sl 2 (.int .i64))))))))) (.sl 145 (.prod (.int .i64) (.prod (.int .i64) (.prod (.int .i64) (.prod (.int .i64) (.prod (.int .i64) (.prod (.sl 150 (.int .u64)) (.sl 2 (.int .i64))))))))))))))))), (1, .c (.o (.dat 126 (.prod (.int .i64) (.sl 114 (.prod (.int .i64) (.prod .bool (.prod (.sl 145 (.prod (.int .i64) (.prod (.int .i64) (.prod (.int .i64) (.prod (.int .i64) (.prod (.int .i64) (.prod (.sl 150 (.int .u64)) (.sl 2 (.int .i64))))))))) (.sl 145 (.prod (.int .i64) (.prod (.int .i64) (.prod (.int .i64) (.prod (.int .i64) (.prod (.int .i64) (.prod (.sl 150 (.int .u64)) (.sl 2 (.int .i64))))))))))))))))), (5, .c (.o (.int .i64)))], [], [], [], []⟩
def laws_eqScopeS.l4.u (n : Nat) (v : laws_eqScopeS.l4.s.V) (K : X → St → Prop) : Prop := laws_eqScopeS.l4 n v.1.1 v.1.2.1 v.1.2.2.1 (K (.exit 0) ⟨[], [], [], [], []⟩) (fun y0 => K .ret ⟨[(4, .c (.bool y0))], [], [], [], []⟩)
theorem laws_eqScopeS.l4_ok : ∀ n v K, laws_eqScopeS.l4.u n v K → loopM C X0 n 86 4 (laws_eqScopeS.l4.s.fill v) K :=
 loop_tell hX (fn := Tryz.f86) (c := bodyOf Tryz.f86) (a := loopOf Tryz.f86 4) (li := liOf (C.fi 86).loops 4) (by kernel_rfl) (by kernel_rfl) (of_decide_eq_true rfl) (by kernel_rfl) (by kernel_rfl) (T := laws_eqScopeS.l4.s) (u := laws_eqScopeS.l4.u) (fun _ _ h => h) (call := D81) (lp := fun n => noL) (D81_ok hX) (fun n => noL_ok) (fun n v K => by kernel_rfl)
theorem laws_eqScopeS_ok : ∀ n v K, laws_eqScopeS.u n v K → callM C X0 n 86 (fillA laws_eqScopeS.a v) K :=
 call_tell hX (fn := Tryz.f86) (c := bodyOf Tryz.f86) (by kernel_rfl) (by kernel_rfl) (A := laws_eqScopeS.a) (u := laws_eqScopeS.u) (fun _ _ h => h) (call := D81) (lp := fun n => orL 4 laws_eqScopeS.l4.s (laws_eqScopeS.l4.u n) noL) (D81_ok hX) (fun n => (orL_ok (laws_eqScopeS.l4_ok hX n) noL_ok)) (fun n v K => by kernel_rfl)
def D82 (n : Nat) : CallF := orC 86 laws_eqScopeS.a (laws_eqScopeS.u n) (D81 n)
theorem D82_ok : ∀ n g a K, D82 n g a K → callM C X0 n g a K := fun n => orC_ok (laws_eqScopeS_ok hX n) (D81_ok hX n)
abbrev laws_eqSession.a : List TS := [.a [.o (.dat 95 (.prod .str (.int .i64))), .o (.dat 126 (.prod (.int .i64) (.sl 114 (.prod (.int .i64) (.prod .bool (.prod (.sl 145 (.prod (.int .i64) (.prod (.int .i64) (.prod (.int .i64) (.prod (.int .i64) (.prod (.int .i64) (.prod (.sl 150 (.int .u64)) (.sl 2 (.int .i64))))))))) (.sl 145 (.prod (.int .i64) (.prod (.int .i64) (.prod (.int .i64) (.prod (.int .i64) (.prod (.int .i64) (.prod (.sl 150 (.int .u64)) (.sl 2 (.int .i64))))))))))))))), .o (.int .i64)], .a [.o (.dat 95 (.prod .str (.int .i64))), .o (.dat 126 (.prod (.int .i64) (.sl 114 (.prod (.int .i64) (.prod .bool (.prod (.sl 145 (.prod (.int .i64) (.prod (.int .i64) (.prod (.int .i64) (.prod (.int .i64) (.prod (.int .i64) (.prod (.sl 150 (.int .u64)) (.sl 2 (.int .i64))))))))) (.sl 145 (.prod (.int .i64) (.prod (.int .i64) (.prod (.int .i64) (.prod (.int .i64) (.prod (.int .i64) (.prod (.sl 150 (.int .u64)) (.sl 2 (.int .i64))))))))))))))), .o (.int .i64)]]
def laws_eqSession.u (n : Nat) (v : VA laws_eqSession.a) (K : RES → Prop) : Prop := laws_eqSession.c n v.1.1 v.1.2.1 v.1.2.2.1 v.2.1.1 v.2.1.2.1 v.2.1.2.2.1 (fun r0 => K ⟨.c (.bool r0), []⟩)
theorem laws_eqSession_ok : ∀ n v K, laws_eqSession.u n v K → callM C X0 n 37 (fillA laws_eqSession.a v) K :=
 call_tell hX (fn := Tryz.f37) (c := bodyOf Tryz.f37) (by kernel_rfl) (by kernel_rfl) (A := laws_eqSession.a) (u := laws_eqSession.u) (fun _ _ h => h) (call := D82) (lp := fun n => noL) (D82_ok hX) (fun n => noL_ok) (fun n v K => by kernel_rfl)
def D83 (n : Nat) : CallF := orC 37 laws_eqSession.a (laws_eqSession.u n) (D82 n)
theorem D83_ok : ∀ n g a K, D83 n g a K → callM C X0 n g a K := fun n => orC_ok (laws_eqSession_ok hX n) (D82_ok hX n)
abbrev laws_markText.a : List TS := [.c (.o (.int .i64))]
def laws_markText.u (n : Nat) (v : VA laws_markText.a) (K : RES → Prop) : Prop := laws_markText.c n v.1 (fun r0 => K ⟨.c (.str r0), []⟩)
abbrev laws_markText.l4.s : ST := ⟨[(0, .c (.o (.int .i64))), (3, .c (.o .str))], [], [], [], []⟩
def laws_markText.l4.u (n : Nat) (v : laws_markText.l4.s.V) (K : X → St → Prop) : Prop := laws_markText.l4 n v.1.1 v.1.2.1 (fun y0 => K (.exit 0) ⟨[(3, .c (.str y0))], [], [], [], []⟩)
theorem laws_markText.l4_ok : ∀ n v K, laws_markText.l4.u n v K → loopM C X0 n 65 4 (laws_markText.l4.s.fill v) K :=
 loop_tell hX (fn := Tryz.f65) (c := bodyOf Tryz.f65) (a := loopOf Tryz.f65 4) (li := liOf (C.fi 65).loops 4) (by kernel_rfl) (by kernel_rfl) (of_decide_eq_true rfl) (by kernel_rfl) (by kernel_rfl) (T := laws_markText.l4.s) (u := laws_markText.l4.u) (fun _ _ h => h) (call := D83) (lp := fun n => noL) (D83_ok hX) (fun n => noL_ok) (fun n v K => by kernel_rfl)
theorem laws_markText_ok : ∀ n v K, laws_markText.u n v K → callM C X0 n 65 (fillA laws_markText.a v) K :=
 call_tell hX (fn := Tryz.f65) (c := bodyOf Tryz.f65) (by kernel_rfl) (by kernel_rfl) (A := laws_markText.a) (u := laws_markText.u) (fun _ _ h => h) (call := D83) (lp := fun n => orL 4 laws_markText.l4.s (laws_markText.l4.u n) noL) (D83_ok hX) (fun n => (orL_ok (laws_markText.l4_ok hX n) noL_ok)) (fun n v K => by kernel_rfl)
def D84 (n : Nat) : CallF := orC 65 laws_markText.a (laws_markText.u n) (D83 n)
theorem D84_ok : ∀ n g a K, D84 n g a K → callM C X0 n g a K := fun n => orC_ok (laws_markText_ok hX n) (D83_ok hX n)
abbrev laws_markDeclS.a : List TS := [.c (.o (.row 95 (.prod .str (.int .i64)) 99)), .c (.o (.int .i64))]
def laws_markDeclS.u (n : Nat) (v : VA laws_markDeclS.a) (K : RES → Prop) : Prop := laws_markDeclS.c n v.1 v.2.1 (fun r0 r1 => K ⟨.c (.int .i64 r0), [[.row ⟨95, .prod .str (.int .i64), r1, 99, none⟩]]⟩)
abbrev laws_markDeclS.l2.s : ST := ⟨[(0, .c (.o (.own 0))), (1, .c (.o (.int .i64))), (5, .c (.o (.int .i64)))], [⟨0, 95, .prod .str (.int .i64), 99⟩], [], [0], []⟩
def laws_markDeclS.l2.u (n : Nat) (v : laws_markDeclS.l2.s.V) (K : X → St → Prop) : Prop := laws_markDeclS.l2 n v.1.2.1 v.1.2.2.1 v.2.1.1 (fun y0 y1 => K (.exit 0) ⟨[(1, .c (.int .i64 y0))], [(0, ⟨95, .prod .str (.int .i64), y1, 99, none⟩)], [], [0], []⟩)
theorem laws_markDeclS.l2_ok : ∀ n v K, laws_markDeclS.l2.u n v K → loopM C X0 n 20 2 (laws_markDeclS.l2.s.fill v) K :=
 loop_tell hX (fn := Tryz.f20) (c := bodyOf Tryz.f20) (a := loopOf Tryz.f20 2) (li := liOf (C.fi 20).loops 2) (by kernel_rfl) (by kernel_rfl) (of_decide_eq_true rfl) (by kernel_rfl) (by kernel_rfl) (T := laws_markDeclS.l2.s) (u := laws_markDeclS.l2.u) (fun _ _ h => h) (call := D84) (lp := fun n => noL) (D84_ok hX) (fun n => noL_ok) (fun n v K => by kernel_rfl)
theorem laws_markDeclS_ok : ∀ n v K, laws_markDeclS.u n v K → callM C X0 n 20 (fillA laws_markDeclS.a v) K :=
 call_tell hX (fn := Tryz.f20) (c := bodyOf Tryz.f20) (by kernel_rfl) (by kernel_rfl) (A := laws_markDeclS.a) (u := laws_markDeclS.u) (fun _ _ h => h) (call := D84) (lp := fun n => orL 2 laws_markDeclS.l2.s (laws_markDeclS.l2.u n) noL) (D84_ok hX) (fun n => (orL_ok (laws_markDeclS.l2_ok hX n) noL_ok)) (fun n v K => by kernel_rfl)
def D85 (n : Nat) : CallF := orC 20 laws_markDeclS.a (laws_markDeclS.u n) (D84 n)
theorem D85_ok : ∀ n g a K, D85 n g a K → callM C X0 n g a K := fun n => orC_ok (laws_markDeclS_ok hX n) (D84_ok hX n)
abbrev laws_markUint64S.a : List TS := [.c (.o (.row 150 (.int .u64) 96)), .c (.o (.int .i64))]
def laws_markUint64S.u (n : Nat) (v : VA laws_markUint64S.a) (K : RES → Prop) : Prop := laws_markUint64S.c n v.1 v.2.1 (fun r0 r1 => K ⟨.c (.int .i64 r0), [[.row ⟨150, .int .u64, r1, 96, none⟩]]⟩)
abbrev laws_markUint64S.l2.s : ST := ⟨[(0, .c (.o (.own 0))), (1, .c (.o (.int .i64))), (5, .c (.o (.int .i64)))], [⟨0, 150, .int .u64, 96⟩], [], [0], []⟩
def laws_markUint64S.l2.u (n : Nat) (v : laws_markUint64S.l2.s.V) (K : X → St → Prop) : Prop := laws_markUint64S.l2 n v.1.2.1 v.1.2.2.1 v.2.1.1 (fun y0 y1 => K (.exit 0) ⟨[(1, .c (.int .i64 y0))], [(0, ⟨150, .int .u64, y1, 96, none⟩)], [], [0], []⟩)
theorem laws_markUint64S.l2_ok : ∀ n v K, laws_markUint64S.l2.u n v K → loopM C X0 n 67 2 (laws_markUint64S.l2.s.fill v) K :=
 loop_tell hX (fn := Tryz.f67) (c := bodyOf Tryz.f67) (a := loopOf Tryz.f67 2) (li := liOf (C.fi 67).loops 2) (by kernel_rfl) (by kernel_rfl) (of_decide_eq_true rfl) (by kernel_rfl) (by kernel_rfl) (T := laws_markUint64S.l2.s) (u := laws_markUint64S.l2.u) (fun _ _ h => h) (call := D85) (lp := fun n => noL) (D85_ok hX) (fun n => noL_ok) (fun n v K => by kernel_rfl)
theorem laws_markUint64S_ok : ∀ n v K, laws_markUint64S.u n v K → callM C X0 n 67 (fillA laws_markUint64S.a v) K :=
 call_tell hX (fn := Tryz.f67) (c := bodyOf Tryz.f67) (by kernel_rfl) (by kernel_rfl) (A := laws_markUint64S.a) (u := laws_markUint64S.u) (fun _ _ h => h) (call := D85) (lp := fun n => orL 2 laws_markUint64S.l2.s (laws_markUint64S.l2.u n) noL) (D85_ok hX) (fun n => (orL_ok (laws_markUint64S.l2_ok hX n) noL_ok)) (fun n v K => by kernel_rfl)
def D86 (n : Nat) : CallF := orC 67 laws_markUint64S.a (laws_markUint64S.u n) (D85 n)
theorem D86_ok : ∀ n g a K, D86 n g a K → callM C X0 n g a K := fun n => orC_ok (laws_markUint64S_ok hX n) (D85_ok hX n)
abbrev laws_markInt64S.a : List TS := [.c (.o (.row 2 (.int .i64) 96)), .c (.o (.int .i64))]
def laws_markInt64S.u (n : Nat) (v : VA laws_markInt64S.a) (K : RES → Prop) : Prop := laws_markInt64S.c n v.1 v.2.1 (fun r0 r1 => K ⟨.c (.int .i64 r0), [[.row ⟨2, .int .i64, r1, 96, none⟩]]⟩)
abbrev laws_markInt64S.l2.s : ST := ⟨[(0, .c (.o (.own 0))), (1, .c (.o (.int .i64))), (5, .c (.o (.int .i64)))], [⟨0, 2, .int .i64, 96⟩], [], [0], []⟩
def laws_markInt64S.l2.u (n : Nat) (v : laws_markInt64S.l2.s.V) (K : X → St → Prop) : Prop := laws_markInt64S.l2 n v.1.2.1 v.1.2.2.1 v.2.1.1 (fun y0 y1 => K (.exit 0) ⟨[(1, .c (.int .i64 y0))], [(0, ⟨2, .int .i64, y1, 96, none⟩)], [], [0], []⟩)
theorem laws_markInt64S.l2_ok : ∀ n v K, laws_markInt64S.l2.u n v K → loopM C X0 n 31 2 (laws_markInt64S.l2.s.fill v) K :=
 loop_tell hX (fn := Tryz.f31) (c := bodyOf Tryz.f31) (a := loopOf Tryz.f31 2) (li := liOf (C.fi 31).loops 2) (by kernel_rfl) (by kernel_rfl) (of_decide_eq_true rfl) (by kernel_rfl) (by kernel_rfl) (T := laws_markInt64S.l2.s) (u := laws_markInt64S.l2.u) (fun _ _ h => h) (call := D86) (lp := fun n => noL) (D86_ok hX) (fun n => noL_ok) (fun n v K => by kernel_rfl)
theorem laws_markInt64S_ok : ∀ n v K, laws_markInt64S.u n v K → callM C X0 n 31 (fillA laws_markInt64S.a v) K :=
 call_tell hX (fn := Tryz.f31) (c := bodyOf Tryz.f31) (by kernel_rfl) (by kernel_rfl) (A := laws_markInt64S.a) (u := laws_markInt64S.u) (fun _ _ h => h) (call := D86) (lp := fun n => orL 2 laws_markInt64S.l2.s (laws_markInt64S.l2.u n) noL) (D86_ok hX) (fun n => (orL_ok (laws_markInt64S.l2_ok hX n) noL_ok)) (fun n v K => by kernel_rfl)
def D87 (n : Nat) : CallF := orC 31 laws_markInt64S.a (laws_markInt64S.u n) (D86 n)
theorem D87_ok : ∀ n g a K, D87 n g a K → callM C X0 n g a K := fun n => orC_ok (laws_markInt64S_ok hX n) (D86_ok hX n)
abbrev laws_markTNodeS.a : List TS := [.c (.o (.row 145 (.prod (.int .i64) (.prod (.int .i64) (.prod (.int .i64) (.prod (.int .i64) (.prod (.int .i64) (.prod (.sl 150 (.int .u64)) (.sl 2 (.int .i64)))))))) 97)), .c (.o (.int .i64))]
def laws_markTNodeS.u (n : Nat) (v : VA laws_markTNodeS.a) (K : RES → Prop) : Prop := laws_markTNodeS.c n v.1 v.2.1 (fun r0 r1 => K ⟨.c (.int .i64 r0), [[.row ⟨145, .prod (.int .i64) (.prod (.int .i64) (.prod (.int .i64) (.prod (.int .i64) (.prod (.int .i64) (.prod (.sl 150 (.int .u64)) (.sl 2 (.int .i64))))))), r1, 97, none⟩]]⟩)
abbrev laws_markTNodeS.l2.s : ST := ⟨[(0, .c (.o (.own 0))), (1, .c (.o (.int .i64))), (5, .c (.o (.int .i64)))], [⟨0, 145, .prod (.int .i64) (.prod (.int .i64) (.prod (.int .i64) (.prod (.int .i64) (.prod (.int .i64) (.prod (.sl 150 (.int .u64)) (.sl 2 (.int .i64))))))), 97⟩], [], [0], []⟩
def laws_markTNodeS.l2.u (n : Nat) (v : laws_markTNodeS.l2.s.V) (K : X → St → Prop) : Prop := laws_markTNodeS.l2 n v.1.2.1 v.1.2.2.1 v.2.1.1 (fun y0 y1 => K (.exit 0) ⟨[(1, .c (.int .i64 y0))], [(0, ⟨145, .prod (.int .i64) (.prod (.int .i64) (.prod (.int .i64) (.prod (.int .i64) (.prod (.int .i64) (.prod (.sl 150 (.int .u64)) (.sl 2 (.int .i64))))))), y1, 97, none⟩)], [], [0], []⟩)
theorem laws_markTNodeS.l2_ok : ∀ n v K, laws_markTNodeS.l2.u n v K → loopM C X0 n 66 2 (laws_markTNodeS.l2.s.fill v) K :=
 loop_tell hX (fn := Tryz.f66) (c := bodyOf Tryz.f66) (a := loopOf Tryz.f66 2) (li := liOf (C.fi 66).loops 2) (by kernel_rfl) (by kernel_rfl) (of_decide_eq_true rfl) (by kernel_rfl) (by kernel_rfl) (T := laws_markTNodeS.l2.s) (u := laws_markTNodeS.l2.u) (fun _ _ h => h) (call := D87) (lp := fun n => noL) (D87_ok hX) (fun n => noL_ok) (fun n v K => by kernel_rfl)
theorem laws_markTNodeS_ok : ∀ n v K, laws_markTNodeS.u n v K → callM C X0 n 66 (fillA laws_markTNodeS.a v) K :=
 call_tell hX (fn := Tryz.f66) (c := bodyOf Tryz.f66) (by kernel_rfl) (by kernel_rfl) (A := laws_markTNodeS.a) (u := laws_markTNodeS.u) (fun _ _ h => h) (call := D87) (lp := fun n => orL 2 laws_markTNodeS.l2.s (laws_markTNodeS.l2.u n) noL) (D87_ok hX) (fun n => (orL_ok (laws_markTNodeS.l2_ok hX n) noL_ok)) (fun n v K => by kernel_rfl)
def D88 (n : Nat) : CallF := orC 66 laws_markTNodeS.a (laws_markTNodeS.u n) (D87 n)
theorem D88_ok : ∀ n g a K, D88 n g a K → callM C X0 n g a K := fun n => orC_ok (laws_markTNodeS_ok hX n) (D87_ok hX n)
abbrev laws_markLiteralS.a : List TS := [.c (.o (.row 114 (.prod (.int .i64) (.prod .bool (.prod (.sl 145 (.prod (.int .i64) (.prod (.int .i64) (.prod (.int .i64) (.prod (.int .i64) (.prod (.int .i64) (.prod (.sl 150 (.int .u64)) (.sl 2 (.int .i64))))))))) (.sl 145 (.prod (.int .i64) (.prod (.int .i64) (.prod (.int .i64) (.prod (.int .i64) (.prod (.int .i64) (.prod (.sl 150 (.int .u64)) (.sl 2 (.int .i64)))))))))))) 98)), .c (.o (.int .i64))]
def laws_markLiteralS.u (n : Nat) (v : VA laws_markLiteralS.a) (K : RES → Prop) : Prop := laws_markLiteralS.c n v.1 v.2.1 (fun r0 r1 => K ⟨.c (.int .i64 r0), [[.row ⟨114, .prod (.int .i64) (.prod .bool (.prod (.sl 145 (.prod (.int .i64) (.prod (.int .i64) (.prod (.int .i64) (.prod (.int .i64) (.prod (.int .i64) (.prod (.sl 150 (.int .u64)) (.sl 2 (.int .i64))))))))) (.sl 145 (.prod (.int .i64) (.prod (.int .i64) (.prod (.int .i64) (.prod (.int .i64) (.prod (.int .i64) (.prod (.sl 150 (.int .u64)) (.sl 2 (.int .i64))))))))))), r1, 98, none⟩]]⟩)
abbrev laws_markLiteralS.l2.s : ST := ⟨[(0, .c (.o (.own 0))), (1, .c (.o (.int .i64))), (5, .c (.o (.int .i64)))], [⟨0, 114, .prod (.int .i64) (.prod .bool (.prod (.sl 145 (.prod (.int .i64) (.prod (.int .i64) (.prod (.int .i64) (.prod (.int .i64) (.prod (.int .i64) (.prod (.sl 150 (.int .u64)) (.sl 2 (.int .i64))))))))) (.sl 145 (.prod (.int .i64) (.prod (.int .i64) (.prod (.int .i64) (.prod (.int .i64) (.prod (.int .i64) (.prod (.sl 150 (.int .u64)) (.sl 2 (.int .i64))))))))))), 98⟩], [], [0], []⟩
def laws_markLiteralS.l2.u (n : Nat) (v : laws_markLiteralS.l2.s.V) (K : X → St → Prop) : Prop := laws_markLiteralS.l2 n v.1.2.1 v.1.2.2.1 v.2.1.1 (fun y0 y1 => K (.exit 0) ⟨[(1, .c (.int .i64 y0))], [(0, ⟨114, .prod (.int .i64) (.prod .bool (.prod (.sl 145 (.prod (.int .i64) (.prod (.int .i64) (.prod (.int .i64) (.prod (.int .i64) (.prod (.int .i64) (.prod (.sl 150 (.int .u64)) (.sl 2 (.int .i64))))))))) (.sl 145 (.prod (.int .i64) (.prod (.int .i64) (.prod (.int .i64) (.prod (.int .i64) (.prod (.int .i64) (.prod (.sl 150 (.int .u64)) (.sl 2 (.int .i64))))))))))), y1, 98, none⟩)], [], [0], []⟩)
theorem laws_markLiteralS.l2_ok : ∀ n v K, laws_markLiteralS.l2.u n v K → loopM C X0 n 30 2 (laws_markLiteralS.l2.s.fill v) K :=
 loop_tell hX (fn := Tryz.f30) (c := bodyOf Tryz.f30) (a := loopOf Tryz.f30 2) (li := liOf (C.fi 30).loops 2) (by kernel_rfl) (by kernel_rfl) (of_decide_eq_true rfl) (by kernel_rfl) (by kernel_rfl) (T := laws_markLiteralS.l2.s) (u := laws_markLiteralS.l2.u) (fun _ _ h => h) (call := D88) (lp := fun n => noL) (D88_ok hX) (fun n => noL_ok) (fun n v K => by kernel_rfl)
theorem laws_markLiteralS_ok : ∀ n v K, laws_markLiteralS.u n v K → callM C X0 n 30 (fillA laws_markLiteralS.a v) K :=
 call_tell hX (fn := Tryz.f30) (c := bodyOf Tryz.f30) (by kernel_rfl) (by kernel_rfl) (A := laws_markLiteralS.a) (u := laws_markLiteralS.u) (fun _ _ h => h) (call := D88) (lp := fun n => orL 2 laws_markLiteralS.l2.s (laws_markLiteralS.l2.u n) noL) (D88_ok hX) (fun n => (orL_ok (laws_markLiteralS.l2_ok hX n) noL_ok)) (fun n v K => by kernel_rfl)
def D89 (n : Nat) : CallF := orC 30 laws_markLiteralS.a (laws_markLiteralS.u n) (D88 n)
theorem D89_ok : ∀ n g a K, D89 n g a K → callM C X0 n g a K := fun n => orC_ok (laws_markLiteralS_ok hX n) (D88_ok hX n)
abbrev laws_markScopeS.a : List TS := [.c (.o (.row 126 (.prod (.int .i64) (.sl 114 (.prod (.int .i64) (.prod .bool (.prod (.sl 145 (.prod (.int .i64) (.prod (.int .i64) (.prod (.int .i64) (.prod (.int .i64) (.prod (.int .i64) (.prod (.sl 150 (.int .u64)) (.sl 2 (.int .i64))))))))) (.sl 145 (.prod (.int .i64) (.prod (.int .i64) (.prod (.int .i64) (.prod (.int .i64) (.prod (.int .i64) (.prod (.sl 150 (.int .u64)) (.sl 2 (.int .i64)))))))))))))) 99)), .c (.o (.int .i64))]
def laws_markScopeS.u (n : Nat) (v : VA laws_markScopeS.a) (K : RES → Prop) : Prop := laws_markScopeS.c n v.1 v.2.1 (fun r0 r1 => K ⟨.c (.int .i64 r0), [[.row ⟨126, .prod (.int .i64) (.sl 114 (.prod (.int .i64) (.prod .bool (.prod (.sl 145 (.prod (.int .i64) (.prod (.int .i64) (.prod (.int .i64) (.prod (.int .i64) (.prod (.int .i64) (.prod (.sl 150 (.int .u64)) (.sl 2 (.int .i64))))))))) (.sl 145 (.prod (.int .i64) (.prod (.int .i64) (.prod (.int .i64) (.prod (.int .i64) (.prod (.int .i64) (.prod (.sl 150 (.int .u64)) (.sl 2 (.int .i64))))))))))))), r1, 99, none⟩]]⟩)
abbrev laws_markScopeS.l2.s : ST := ⟨[(0, .c (.o (.own 0))), (1, .c (.o (.int .i64))), (5, .c (.o (.int .i64)))], [⟨0, 126, .prod (.int .i64) (.sl 114 (.prod (.int .i64) (.prod .bool (.prod (.sl 145 (.prod (.int .i64) (.prod (.int .i64) (.prod (.int .i64) (.prod (.int .i64) (.prod (.int .i64) (.prod (.sl 150 (.int .u64)) (.sl 2 (.int .i64))))))))) (.sl 145 (.prod (.int .i64) (.prod (.int .i64) (.prod (.int .i64) (.prod (.int .i64) (.prod (.int .i64) (.prod (.sl 150 (.int .u64)) (.sl 2 (.int .i64))))))))))))), 99⟩], [], [0], []⟩
def laws_markScopeS.l2.u (n : Nat) (v : laws_markScopeS.l2.s.V) (K : X → St → Prop) : Prop := laws_markScopeS.l2 n v.1.2.1 v.1.2.2.1 v.2.1.1 (fun y0 y1 => K (.exit 0) ⟨[(1, .c (.int .i64 y0))], [(0, ⟨126, .prod (.int .i64) (.sl 114 (.prod (.int .i64) (.prod .bool (.prod (.sl 145 (.prod (.int .i64) (.prod (.int .i64) (.prod (.int .i64) (.prod (.int .i64) (.prod (.int .i64) (.prod (.sl 150 (.int .u64)) (.sl 2 (.int .i64))))))))) (.sl 145 (.prod (.int .i64) (.prod (.int .i64) (.prod (.int .i64) (.prod (.int .i64) (.prod (.int .i64) (.prod (.sl 150 (.int .u64)) (.sl 2 (.int .i64))))))))))))), y1, 99, none⟩)], [], [0], []⟩)
theorem laws_markScopeS.l2_ok : ∀ n v K, laws_markScopeS.l2.u n v K → loopM C X0 n 87 2 (laws_markScopeS.l2.s.fill v) K :=
 loop_tell hX (fn := Tryz.f87) (c := bodyOf Tryz.f87) (a := loopOf Tryz.f87 2) (li := liOf (C.fi 87).loops 2) (by kernel_rfl) (by kernel_rfl) (of_decide_eq_true rfl) (by kernel_rfl) (by kernel_rfl) (T := laws_markScopeS.l2.s) (u := laws_markScopeS.l2.u) (fun _ _ h => h) (call := D89) (lp := fun n => noL) (D89_ok hX) (fun n => noL_ok) (fun n v K => by kernel_rfl)
theorem laws_markScopeS_ok : ∀ n v K, laws_markScopeS.u n v K → callM C X0 n 87 (fillA laws_markScopeS.a v) K :=
 call_tell hX (fn := Tryz.f87) (c := bodyOf Tryz.f87) (by kernel_rfl) (by kernel_rfl) (A := laws_markScopeS.a) (u := laws_markScopeS.u) (fun _ _ h => h) (call := D89) (lp := fun n => orL 2 laws_markScopeS.l2.s (laws_markScopeS.l2.u n) noL) (D89_ok hX) (fun n => (orL_ok (laws_markScopeS.l2_ok hX n) noL_ok)) (fun n v K => by kernel_rfl)
def D90 (n : Nat) : CallF := orC 87 laws_markScopeS.a (laws_markScopeS.u n) (D89 n)
theorem D90_ok : ∀ n g a K, D90 n g a K → callM C X0 n g a K := fun n => orC_ok (laws_markScopeS_ok hX n) (D89_ok hX n)
abbrev laws_markSession.a : List TS := [.a [.o (.row 95 (.prod .str (.int .i64)) 99), .o (.row 126 (.prod (.int .i64) (.sl 114 (.prod (.int .i64) (.prod .bool (.prod (.sl 145 (.prod (.int .i64) (.prod (.int .i64) (.prod (.int .i64) (.prod (.int .i64) (.prod (.int .i64) (.prod (.sl 150 (.int .u64)) (.sl 2 (.int .i64))))))))) (.sl 145 (.prod (.int .i64) (.prod (.int .i64) (.prod (.int .i64) (.prod (.int .i64) (.prod (.int .i64) (.prod (.sl 150 (.int .u64)) (.sl 2 (.int .i64)))))))))))))) 99), .o (.int .i64)], .c (.o (.int .i64))]
def laws_markSession.u (n : Nat) (v : VA laws_markSession.a) (K : RES → Prop) : Prop := laws_markSession.c n v.1.1 v.1.2.1 v.1.2.2.1 v.2.1 (fun r0 r1 r2 r3 => K ⟨.c (.int .i64 r0), [[.row ⟨95, .prod .str (.int .i64), r1, 99, none⟩, .row ⟨126, .prod (.int .i64) (.sl 114 (.prod (.int .i64) (.prod .bool (.prod (.sl 145 (.prod (.int .i64) (.prod (.int .i64) (.prod (.int .i64) (.prod (.int .i64) (.prod (.int .i64) (.prod (.sl 150 (.int .u64)) (.sl 2 (.int .i64))))))))) (.sl 145 (.prod (.int .i64) (.prod (.int .i64) (.prod (.int .i64) (.prod (.int .i64) (.prod (.int .i64) (.prod (.sl 150 (.int .u64)) (.sl 2 (.int .i64))))))))))))), r2, 99, none⟩, .int .i64 r3]]⟩)
theorem laws_markSession_ok : ∀ n v K, laws_markSession.u n v K → callM C X0 n 38 (fillA laws_markSession.a v) K :=
 call_tell hX (fn := Tryz.f38) (c := bodyOf Tryz.f38) (by kernel_rfl) (by kernel_rfl) (A := laws_markSession.a) (u := laws_markSession.u) (fun _ _ h => h) (call := D90) (lp := fun n => noL) (D90_ok hX) (fun n => noL_ok) (fun n v K => by kernel_rfl)
def D91 (n : Nat) : CallF := orC 38 laws_markSession.a (laws_markSession.u n) (D90 n)
theorem D91_ok : ∀ n g a K, D91 n g a K → callM C X0 n g a K := fun n => orC_ok (laws_markSession_ok hX n) (D90_ok hX n)
end
end Go.Vsi
end

section
set_option linter.unusedVariables false
namespace Go.Vsi
open Go.Proofs
section
variable {X0 : CallF} (hX : CallF.Mono X0)
include hX
abbrev laws_heldDeclS.a : List TS := [.c (.o (.dat 95 (.prod .str (.int .i64)))), .c (.o (.int .i64))]
def laws_heldDeclS.u (n : Nat) (v : VA laws_heldDeclS.a) (K : RES → Prop) : Prop := laws_heldDeclS.c n v.1 v.2.1 (fun r0 => K ⟨.c (.int .i64 r0), []⟩)
abbrev laws_heldDeclS.l2.s : ST := ⟨[(0, .c (.o (.dat 95 (.prod .str (.int .i64))))), (1, .c (.o (.int .i64))), (5, .c (.o (.int .i64)))], [], [], [], []⟩
def laws_heldDeclS.l2.u (n : Nat) (v : laws_heldDeclS.l2.s.V) (K : X → St → Prop) : Prop := laws_heldDeclS.l2 n v.1.1 v.1.2.1 v.1.2.2.1 (fun y0 => K (.exit 0) ⟨[(1, .c (.int .i64 y0))], [], [], [], []⟩) (fun y0 => K .ret ⟨[(4, .c (.int .i64 y0))], [], [], [], []⟩)
theorem laws_heldDeclS.l2_ok : ∀ n v K, laws_heldDeclS.l2.u n v K → loopM C X0 n 88 2 (laws_heldDeclS.l2.s.fill v) K :=
 loop_tell hX (fn := Tryz.f88) (c := bodyOf Tryz.f88) (a := loopOf Tryz.f88 2) (li := liOf (C.fi 88).loops 2) (by kernel_rfl) (by kernel_rfl) (of_decide_eq_true rfl) (by kernel_rfl) (by kernel_rfl) (T := laws_heldDeclS.l2.s) (u := laws_heldDeclS.l2.u) (fun _ _ h => h) (call := D91) (lp := fun n => noL) (D91_ok hX) (fun n => noL_ok) (fun n v K => by kernel_rfl)
theorem laws_heldDeclS_ok : ∀ n v K, laws_heldDeclS.u n v K → callM C X0 n 88 (fillA laws_heldDeclS.a v) K :=
 call_tell hX (fn := Tryz.f88) (c := bodyOf Tryz.f88) (by kernel_rfl) (by kernel_rfl) (A := laws_heldDeclS.a) (u := laws_heldDeclS.u) (fun _ _ h => h) (call := D91) (lp := fun n => orL 2 laws_heldDeclS.l2.s (laws_heldDeclS.l2.u n) noL) (D91_ok hX) (fun n => (orL_ok (laws_heldDeclS.l2_ok hX n) noL_ok)) (fun n v K => by kernel_rfl)
def D92 (n : Nat) : CallF := orC 88 laws_heldDeclS.a (laws_heldDeclS.u n) (D91 n)
theorem D92_ok : ∀ n g a K, D92 n g a K → callM C X0 n g a K := fun n => orC_ok (laws_heldDeclS_ok hX n) (D91_ok hX n)
abbrev laws_heldUint64S.a : List TS := [.c (.o (.dat 150 (.int .u64))), .c (.o (.int .i64))]
def laws_heldUint64S.u (n : Nat) (v : VA laws_heldUint64S.a) (K : RES → Prop) : Prop := laws_heldUint64S.c n v.1 v.2.1 (fun r0 => K ⟨.c (.int .i64 r0), []⟩)
abbrev laws_heldUint64S.l2.s : ST := ⟨[(0, .c (.o (.dat 150 (.int .u64)))), (1, .c (.o (.int .i64))), (5, .c (.o (.int .i64)))], [], [], [], []⟩
def laws_heldUint64S.l2.u (n : Nat) (v : laws_heldUint64S.l2.s.V) (K : X → St → Prop) : Prop := laws_heldUint64S.l2 n v.1.1 v.1.2.1 v.1.2.2.1 (fun y0 => K (.exit 0) ⟨[(1, .c (.int .i64 y0))], [], [], [], []⟩) (fun y0 => K .ret ⟨[(4, .c (.int .i64 y0))], [], [], [], []⟩)
theorem laws_heldUint64S.l2_ok : ∀ n v K, laws_heldUint64S.l2.u n v K → loopM C X0 n 68 2 (laws_heldUint64S.l2.s.fill v) K :=
 loop_tell hX (fn := Tryz.f68) (c := bodyOf Tryz.f68) (a := loopOf Tryz.f68 2) (li := liOf (C.fi 68).loops 2) (by kernel_rfl) (by kernel_rfl) (of_decide_eq_true rfl) (by kernel_rfl) (by kernel_rfl) (T := laws_heldUint64S.l2.s) (u := laws_heldUint64S.l2.u) (fun _ _ h => h) (call := D92) (lp := fun n => noL) (D92_ok hX) (fun n => noL_ok) (fun n v K => by kernel_rfl)
theorem laws_heldUint64S_ok : ∀ n v K, laws_heldUint64S.u n v K → callM C X0 n 68 (fillA laws_heldUint64S.a v) K :=
 call_tell hX (fn := Tryz.f68) (c := bodyOf Tryz.f68) (by kernel_rfl) (by kernel_rfl) (A := laws_heldUint64S.a) (u := laws_heldUint64S.u) (fun _ _ h => h) (call := D92) (lp := fun n => orL 2 laws_heldUint64S.l2.s (laws_heldUint64S.l2.u n) noL) (D92_ok hX) (fun n => (orL_ok (laws_heldUint64S.l2_ok hX n) noL_ok)) (fun n v K => by kernel_rfl)
def D93 (n : Nat) : CallF := orC 68 laws_heldUint64S.a (laws_heldUint64S.u n) (D92 n)
theorem D93_ok : ∀ n g a K, D93 n g a K → callM C X0 n g a K := fun n => orC_ok (laws_heldUint64S_ok hX n) (D92_ok hX n)
abbrev laws_heldInt64S.a : List TS := [.c (.o (.dat 2 (.int .i64))), .c (.o (.int .i64))]
def laws_heldInt64S.u (n : Nat) (v : VA laws_heldInt64S.a) (K : RES → Prop) : Prop := laws_heldInt64S.c n v.1 v.2.1 (fun r0 => K ⟨.c (.int .i64 r0), []⟩)
abbrev laws_heldInt64S.l2.s : ST := ⟨[(0, .c (.o (.dat 2 (.int .i64)))), (1, .c (.o (.int .i64))), (5, .c (.o (.int .i64)))], [], [], [], []⟩
def laws_heldInt64S.l2.u (n : Nat) (v : laws_heldInt64S.l2.s.V) (K : X → St → Prop) : Prop := laws_heldInt64S.l2 n v.1.1 v.1.2.1 v.1.2.2.1 (fun y0 => K (.exit 0) ⟨[(1, .c (.int .i64 y0))], [], [], [], []⟩) (fun y0 => K .ret ⟨[(4, .c (.int .i64 y0))], [], [], [], []⟩)
theorem laws_heldInt64S.l2_ok : ∀ n v K, laws_heldInt64S.l2.u n v K → loopM C X0 n 32 2 (laws_heldInt64S.l2.s.fill v) K :=
 loop_tell hX (fn := Tryz.f32) (c := bodyOf Tryz.f32) (a := loopOf Tryz.f32 2) (li := liOf (C.fi 32).loops 2) (by kernel_rfl) (by kernel_rfl) (of_decide_eq_true rfl) (by kernel_rfl) (by kernel_rfl) (T := laws_heldInt64S.l2.s) (u := laws_heldInt64S.l2.u) (fun _ _ h => h) (call := D93) (lp := fun n => noL) (D93_ok hX) (fun n => noL_ok) (fun n v K => by kernel_rfl)
theorem laws_heldInt64S_ok : ∀ n v K, laws_heldInt64S.u n v K → callM C X0 n 32 (fillA laws_heldInt64S.a v) K :=
 call_tell hX (fn := Tryz.f32) (c := bodyOf Tryz.f32) (by kernel_rfl) (by kernel_rfl) (A := laws_heldInt64S.a) (u := laws_heldInt64S.u) (fun _ _ h => h) (call := D93) (lp := fun n => orL 2 laws_heldInt64S.l2.s (laws_heldInt64S.l2.u n) noL) (D93_ok hX) (fun n => (orL_ok (laws_heldInt64S.l2_ok hX n) noL_ok)) (fun n v K => by kernel_rfl)
def D94 (n : Nat) : CallF := orC 32 laws_heldInt64S.a (laws_heldInt64S.u n) (D93 n)
theorem D94_ok : ∀ n g a K, D94 n g a K → callM C X0 n g a K := fun n => orC_ok (laws_heldInt64S_ok hX n) (D93_ok hX n)
abbrev laws_heldTNodeS.a : List TS := [.c (.o (.dat 145 (.prod (.int .i64) (.prod (.int .i64) (.prod (.int .i64) (.prod (.int .i64) (.prod (.int .i64) (.prod (.sl 150 (.int .u64)) (.sl 2 (.int .i64)))))))))), .c (.o (.int .i64))]
def laws_heldTNodeS.u (n : Nat) (v : VA laws_heldTNodeS.a) (K : RES → Prop) : Prop := laws_heldTNodeS.c n v.1 v.2.1 (fun r0 => K ⟨.c (.int .i64 r0), []⟩)
abbrev laws_heldTNodeS.l2.s : ST := ⟨[(0, .c (.o (.dat 145 (.prod (.int .i64) (.prod (.int .i64) (.prod (.int .i64) (.prod (.int .i64) (.prod (.int .i64) (.prod (.sl 150 (.int .u64)) (.sl 2 (.int .i64))))))))))), (1, .c (.o (.int .i64))), (5, .c (.o (.int .i64)))], [], [], [], []⟩
def laws_heldTNodeS.l2.u (n : Nat) (v : laws_heldTNodeS.l2.s.V) (K : X → St → Prop) : Prop := laws_heldTNodeS.l2 n v.1.1 v.1.2.1 v.1.2.2.1 (fun y0 => K (.exit 0) ⟨[(1, .c (.int .i64 y0))], [], [], [], []⟩) (fun y0 => K .ret ⟨[(4, .c (.int .i64 y0))], [], [], [], []⟩)
theorem laws_heldTNodeS.l2_ok : ∀ n v K, laws_heldTNodeS.l2.u n v K → loopM C X0 n 161 2 (laws_heldTNodeS.l2.s.fill v) K :=
 loop_tell hX (fn := Tryz.f161) (c := bodyOf Tryz.f161) (a := loopOf Tryz.f161 2) (li := liOf (C.fi 161).loops 2) (by kernel_rfl) (by kernel_rfl) (of_decide_eq_true rfl) (by kernel_rfl) (by kernel_rfl) (T := laws_heldTNodeS.l2.s) (u := laws_heldTNodeS.l2.u) (fun _ _ h => h) (call := D94) (lp := fun n => noL) (D94_ok hX) (fun n => noL_ok) (fun n v K => by kernel_rfl)
theorem laws_heldTNodeS_ok : ∀ n v K, laws_heldTNodeS.u n v K → callM C X0 n 161 (fillA laws_heldTNodeS.a v) K :=
 call_tell hX (fn := Tryz.f161) (c := bodyOf Tryz.f161) (by kernel_rfl) (by kernel_rfl) (A := laws_heldTNodeS.a) (u := laws_heldTNodeS.u) (fun _ _ h => h) (call := D94) (lp := fun n => orL 2 laws_heldTNodeS.l2.s (laws_heldTNodeS.l2.u n) noL) (D94_ok hX) (fun n => (orL_ok (laws_heldTNodeS.l2_ok hX n) noL_ok)) (fun n v K => by kernel_rfl)
def D95 (n : Nat) : CallF := orC 161 laws_heldTNodeS.a (laws_heldTNodeS.u n) (D94 n)
theorem D95_ok : ∀ n g a K, D95 n g a K → callM C X0 n g a K := fun n => orC_ok (laws_heldTNodeS_ok hX n) (D94_ok hX n)
abbrev laws_heldLiteralS.a : List TS := [.c (.o (.dat 114 (.prod (.int .i64) (.prod .bool (.prod (.sl 145 (.prod (.int .i64) (.prod (.int .i64) (.prod (.int .i64) (.prod (.int .i64) (.prod (.int .i64) (.prod (.sl 150 (.int .u64)) (.sl 2 (.int .i64))))))))) (.sl 145 (.prod (.int .i64) (.prod (.int .i64) (.prod (.int .i64) (.prod (.int .i64) (.prod (.int .i64) (.prod (.sl 150 (.int .u64)) (.sl 2 (.int .i64)))))))))))))), .c (.o (.int .i64))]
def laws_heldLiteralS.u (n : Nat) (v : VA laws_heldLiteralS.a) (K : RES → Prop) : Prop := laws_heldLiteralS.c n v.1 v.2.1 (fun r0 => K ⟨.c (.int .i64 r0), []⟩)
abbrev laws_heldLiteralS.l2.s : ST := ⟨[(0, .c (.o (.dat 114 (.prod (.int .i64) (.prod .bool (.prod (.sl 145 (.prod (.int .i64) (.prod (.int .i64) (.prod (.int .i64) (.prod (.int .i64) (.prod (.int .i64) (.prod (.sl 150 (.int .u64)) (.sl 2 (.int .i64))))))))) (.sl 145 (.prod (.int .i64) (.prod (.int .i64) (.prod (.int .i64) (.prod (.int .i64) (.prod (.int .i64) (.prod (.sl 150 (.int .u64)) (.sl 2 (.int .i64))))))))))))))), (1, .c (.o (.int .i64))), (5, .c (.o (.int .i64)))], [], [], [], []⟩
def laws_heldLiteralS.l2.u (n : Nat) (v : laws_heldLiteralS.l2.s.V) (K : X → St → Prop) : Prop := laws_heldLiteralS.l2 n v.1.1 v.1.2.1 v.1.2.2.1 (fun y0 => K (.exit 0) ⟨[(1, .c (.int .i64 y0))], [], [], [], []⟩) (fun y0 => K .ret ⟨[(4, .c (.int .i64 y0))], [], [], [], []⟩)
theorem laws_heldLiteralS.l2_ok : ∀ n v K, laws_heldLiteralS.l2.u n v K → loopM C X0 n 131 2 (laws_heldLiteralS.l2.s.fill v) K :=
 loop_tell hX (fn := Tryz.f131) (c := bodyOf Tryz.f131) (a := loopOf Tryz.f131 2) (li := liOf (C.fi 131).loops 2) (by kernel_rfl) (by kernel_rfl) (of_decide_eq_true rfl) (by kernel_rfl) (by kernel_rfl) (T := laws_heldLiteralS.l2.s) (u := laws_heldLiteralS.l2.u) (fun _ _ h => h) (call := D95) (lp := fun n => noL) (D95_ok hX) (fun n => noL_ok) (fun n v K => by kernel_rfl)
theorem laws_heldLiteralS_ok : ∀ n v K, laws_heldLiteralS.u n v K → callM C X0 n 131 (fillA laws_heldLiteralS.a v) K :=
 call_tell hX (fn := Tryz.f131) (c := bodyOf Tryz.f131) (by kernel_rfl) (by kernel_rfl) (A := laws_heldLiteralS.a) (u := laws_heldLiteralS.u) (fun _ _ h => h) (call := D95) (lp := fun n => orL 2 laws_heldLiteralS.l2.s (laws_heldLiteralS.l2.u n) noL) (D95_ok hX) (fun n => (orL_ok (laws_heldLiteralS.l2_ok hX n) noL_ok)) (fun n v K => by kernel_rfl)
def D96 (n : Nat) : CallF := orC 131 laws_heldLiteralS.a (laws_heldLiteralS.u n) (D95 n)
theorem D96_ok : ∀ n g a K, D96 n g a K → callM C X0 n g a K := fun n => orC_ok (laws_heldLiteralS_ok hX n) (D95_ok hX n)
abbrev laws_heldScopeS.a : List TS := [.c (.o (.dat 126 (.prod (.int .i64) (.sl 114 (.prod (.int .i64) (.prod .bool (.prod (.sl 145 (.prod (.int .i64) (.prod (.int .i64) (.prod (.int .i64) (.prod (.int .i64) (.prod (.int .i64) (.prod (.sl 150 (.int .u64)) (.sl 2 (.int .i64))))))))) (.sl 145 (.prod (.int .i64) (.prod (.int .i64) (.prod (.int .i64) (.prod (.int .i64) (.prod (.int .i64) (.prod (.sl 150 (.int .u64)) (.sl 2 (.int .i64)))))))))))))))), .c (.o (.int .i64))]
def laws_heldScopeS.u (n : Nat) (v : VA laws_heldScopeS.a) (K : RES → Prop) : Prop := laws_heldScopeS.c n v.1 v.2.1 (fun r0 => K ⟨.c (.int .i64 r0), []⟩)
abbrev laws_heldScopeS.l2.s : ST := ⟨[(0, .c (.o (.dat 126 (.prod (.int .i64) (.sl 114 (.prod (.int .i64) (.prod .bool (.prod (.sl 145 (.prod (.int .i64) (.prod (.int .i64) (.prod (.int .i64) (.prod (.int .i64) (.prod (.int .i64) (.prod (.sl 150 (.int .u64)) (.sl 2 (.int .i64))))))))) (.sl 145 (.prod (.int .i64) (.prod (.int .i64) (.prod (.int .i64) (.prod (.int .i64) (.prod (.int .i64) (.prod (.sl 150 (.int .u64)) (.sl 2 (.int .i64))))))))))))))))), (1, .c (.o (.int .i64))), (5, .c (.o (.int .i64)))], [], [], [], []⟩
def laws_heldScopeS.l2.u (n : Nat) (v : laws_heldScopeS.l2.s.V) (K : X → St → Prop) : Prop := laws_heldScopeS.l2 n v.1.1 v.1.2.1 v.1.2.2.1 (fun y0 => K (.exit 0) ⟨[(1, .c (.int .i64 y0))], [], [], [], []⟩) (fun y0 => K .ret ⟨[(4, .c (.int .i64 y0))], [], [], [], []⟩)
theorem laws_heldScopeS.l2_ok : ∀ n v K, laws_heldScopeS.l2.u n v K → loopM C X0 n 89 2 (laws_heldScopeS.l2.s.fill v) K :=
 loop_tell hX (fn := Tryz.f89) (c := bodyOf Tryz.f89) (a := loopOf Tryz.f89 2) (li := liOf (C.fi 89).loops 2) (by kernel_rfl) (by kernel_rfl) (of_decide_eq_true rfl) (by kernel_rfl) (by kernel_rfl) (T := laws_heldScopeS.l2.s) (u := laws_heldScopeS.l2.u) (fun _ _ h => h) (call := D96) (lp := fun n => noL) (D96_ok hX) (fun n => noL_ok) (fun n v K => by kernel_rfl)
theorem laws_heldScopeS_ok : ∀ n v K, laws_heldScopeS.u n v K → callM C X0 n 89 (fillA laws_heldScopeS.a v) K :=
 call_tell hX (fn := Tryz.f89) (c := bodyOf Tryz.f89) (by kernel_rfl) (by kernel_rfl) (A := laws_heldScopeS.a) (u := laws_heldScopeS.u) (fun _ _ h => h) (call := D96) (lp := fun n => orL 2 laws_heldScopeS.l2.s (laws_heldScopeS.l2.u n) noL) (D96_ok hX) (fun n => (orL_ok (laws_heldScopeS.l2_ok hX n) noL_ok)) (fun n v K => by kernel_rfl)
def D97 (n : Nat) : CallF := orC 89 laws_heldScopeS.a (laws_heldScopeS.u n) (D96 n)
theorem D97_ok : ∀ n g a K, D97 n g a K → callM C X0 n g a K := fun n => orC_ok (laws_heldScopeS_ok hX n) (D96_ok hX n)
abbrev laws_heldSession.a : List TS := [.a [.o (.dat 95 (.prod .str (.int .i64))), .o (.dat 126 (.prod (.int .i64) (.sl 114 (.prod (.int .i64) (.prod .bool (.prod (.sl 145 (.prod (.int .i64) (.prod (.int .i64) (.prod (.int .i64) (.prod (.int .i64) (.prod (.int .i64) (.prod (.sl 150 (.int .u64)) (.sl 2 (.int .i64))))))))) (.sl 145 (.prod (.int .i64) (.prod (.int .i64) (.prod (.int .i64) (.prod (.int .i64) (.prod (.int .i64) (.prod (.sl 150 (.int .u64)) (.sl 2 (.int .i64))))))))))))))), .o (.int .i64)], .c (.o (.int .i64))]
def laws_heldSession.u (n : Nat) (v : VA laws_heldSession.a) (K : RES → Prop) : Prop := laws_heldSession.c n v.1.1 v.1.2.1 v.1.2.2.1 v.2.1 (fun r0 => K ⟨.c (.int .i64 r0), []⟩)
theorem laws_heldSession_ok : ∀ n v K, laws_heldSession.u n v K → callM C X0 n 39 (fillA laws_heldSession.a v) K :=
 call_tell hX (fn := Tryz.f39) (c := bodyOf Tryz.f39) (by kernel_rfl) (by kernel_rfl) (A := laws_heldSession.a) (u := laws_heldSession.u) (fun _ _ h => h) (call := D97) (lp := fun n => noL) (D97_ok hX) (fun n => noL_ok) (fun n v K => by kernel_rfl)
def D98 (n : Nat) : CallF := orC 39 laws_heldSession.a (laws_heldSession.u n) (D97 n)
theorem D98_ok : ∀ n g a K, D98 n g a K → callM C X0 n g a K := fun n => orC_ok (laws_heldSession_ok hX n) (D97_ok hX n)
abbrev spec_Pop.a : List TS := [.a [.o (.dat 95 (.prod .str (.int .i64))), .o (.dat 126 (.prod (.int .i64) (.sl 114 (.prod (.int .i64) (.prod .bool (.prod (.sl 145 (.prod (.int .i64) (.prod (.int .i64) (.prod (.int .i64) (.prod (.int .i64) (.prod (.int .i64) (.prod (.sl 150 (.int .u64)) (.sl 2 (.int .i64))))))))) (.sl 145 (.prod (.int .i64) (.prod (.int .i64) (.prod (.int .i64) (.prod (.int .i64) (.prod (.int .i64) (.prod (.sl 150 (.int .u64)) (.sl 2 (.int .i64))))))))))))))), .o (.int .i64)]]
def spec_Pop.u (n : Nat) (v : VA spec_Pop.a) (K : RES → Prop) : Prop := spec_Pop.c n v.1.1 v.1.2.1 v.1.2.2.1 (fun r0 r1 r2 r3 => K ⟨.tup [.agg [.row ⟨95, .prod .str (.int .i64), r0, 99, none⟩, .row ⟨126, .prod (.int .i64) (.sl 114 (.prod (.int .i64) (.prod .bool (.prod (.sl 145 (.prod (.int .i64) (.prod (.int .i64) (.prod (.int .i64) (.prod (.int .i64) (.prod (.int .i64) (.prod (.sl 150 (.int .u64)) (.sl 2 (.int .i64))))))))) (.sl 145 (.prod (.int .i64) (.prod (.int .i64) (.prod (.int .i64) (.prod (.int .i64) (.prod (.int .i64) (.prod (.sl 150 (.int .u64)) (.sl 2 (.int .i64))))))))))))), r1, 99, none⟩, .int .i64 r2], .c (.int .i64 r3)], []⟩)
theorem spec_Pop_ok : ∀ n v K, spec_Pop.u n v K → callM C X0 n 40 (fillA spec_Pop.a v) K :=
 call_tell hX (fn := Tryz.f40) (c := bodyOf Tryz.f40) (by kernel_rfl) (by kernel_rfl) (A := spec_Pop.a) (u := spec_Pop.u) (fun _ _ h => h) (call := D98) (lp := fun n => noL) (D98_ok hX) (fun n => noL_ok) (fun n v K => by kernel_rfl)
def D99 (n : Nat) : CallF := orC 40 spec_Pop.a (spec_Pop.u n) (D98 n)
theorem D99_ok : ∀ n g a K, D99 n g a K → callM C X0 n g a K := fun n => orC_ok (spec_Pop_ok hX n) (D98_ok hX n)
abbrev impl_Pop.a : List TS := [.a [.o (.dat 95 (.prod .str (.int .i64))), .o (.dat 126 (.prod (.int .i64) (.sl 114 (.prod (.int .i64) (.prod .bool (.prod (.sl 145 (.prod (.int .i64) (.prod (.int .i64) (.prod (.int .i64) (.prod (.int .i64) (.prod (.int .i64) (.prod (.sl 150 (.int .u64)) (.sl 2 (.int .i64))))))))) (.sl 145 (.prod (.int .i64) (.prod (.int .i64) (.prod (.int .i64) (.prod (.int .i64) (.prod (.int .i64) (.prod (.sl 150 (.int .u64)) (.sl 2 (.int .i64))))))))))))))), .o (.int .i64)]]
def impl_Pop.u (n : Nat) (v : VA impl_Pop.a) (K : RES → Prop) : Prop := impl_Pop.c n v.1.1 v.1.2.1 v.1.2.2.1 (fun r0 r1 r2 r3 => K ⟨.tup [.agg [.row ⟨95, .prod .str (.int .i64), r0, 99, none⟩, .row ⟨126, .prod (.int .i64) (.sl 114 (.prod (.int .i64) (.prod .bool (.prod (.sl 145 (.prod (.int .i64) (.prod (.int .i64) (.prod (.int .i64) (.prod (.int .i64) (.prod (.int .i64) (.prod (.sl 150 (.int .u64)) (.sl 2 (.int .i64))))))))) (.sl 145 (.prod (.int .i64) (.prod (.int .i64) (.prod (.int .i64) (.prod (.int .i64) (.prod (.int .i64) (.prod (.sl 150 (.int .u64)) (.sl 2 (.int .i64))))))))))))), r1, 99, none⟩, .int .i64 r2], .c (.int .i64 r3)], []⟩)
theorem impl_Pop_ok : ∀ n v K, impl_Pop.u n v K → callM C X0 n 41 (fillA impl_Pop.a v) K :=
 call_tell hX (fn := Tryz.f41) (c := bodyOf Tryz.f41) (by kernel_rfl) (by kernel_rfl) (A := impl_Pop.a) (u := impl_Pop.u) (fun _ _ h => h) (call := D99) (lp := fun n => noL) (D99_ok hX) (fun n => noL_ok) (fun n v K => by kernel_rfl)
def D100 (n : Nat) : CallF := orC 41 impl_Pop.a (impl_Pop.u n) (D99 n)
theorem D100_ok : ∀ n g a K, D100 n g a K → callM C X0 n g a K := fun n => orC_ok (impl_Pop_ok hX n) (D99_ok hX n)
abbrev laws_FnExactPop.a : List TS := [.a [.o (.dat 74 (.prod .str (.int .i64))), .o (.dat 160 (.prod (.int .i64) (.sl 109 (.prod (.int .i64) (.prod .bool (.prod (.sl 192 (.prod (.int .i64) (.prod (.int .i64) (.prod (.int .i64) (.prod (.int .i64) (.prod (.int .i64) (.prod (.sl 150 (.int .u64)) (.sl 2 (.int .i64))))))))) (.sl 192 (.prod (.int .i64) (.prod (.int .i64) (.prod (.int .i64) (.prod (.int .i64) (.prod (.int .i64) (.prod (.sl 150 (.int .u64)) (.sl 2 (.int .i64))))))))))))))), .o (.int .i64)]]
def laws_FnExactPop.u (n : Nat) (v : VA laws_FnExactPop.a) (K : RES → Prop) : Prop := laws_FnExactPop.c n v.1.1 v.1.2.1 v.1.2.2.1 (fun r0 => K ⟨.c (.bool r0), []⟩)
theorem laws_FnExactPop_ok : ∀ n v K, laws_FnExactPop.u n v K → callM C X0 n 6 (fillA laws_FnExactPop.a v) K :=
 call_tell hX (fn := Tryz.f6) (c := bodyOf Tryz.f6) (by kernel_rfl) (by kernel_rfl) (A := laws_FnExactPop.a) (u := laws_FnExactPop.u) (fun _ _ h => h) (call := D100) (lp := fun n => noL) (D100_ok hX) (fun n => noL_ok) (fun n v K => by kernel_rfl)
def D101 (n : Nat) : CallF := orC 6 laws_FnExactPop.a (laws_FnExactPop.u n) (D100 n)
theorem D101_ok : ∀ n g a K, D101 n g a K → callM C X0 n g a K := fun n => orC_ok (laws_FnExactPop_ok hX n) (D100_ok hX n)
end
end Go.Vsi
end
