/- Each told function is what the machine comes to. No statement is proved here. -/
import Derived.Test.YtmpbobopdjbopaaM3
import Derived.Test.YtmpbobopdjbopaaA1
import Derived.Test.YtmpbobopdjbopaaProg
import Derived.KernelRfl

section
set_option linter.unusedVariables false
namespace Go.Vsi
open Go.Proofs
def tis : List (Nat × TI) := [
(1, ⟨false, 1, 8, [.undef], none, none, []⟩),
(2, ⟨false, 1, 8, [.int .i64 0], some (.int .i64), none, []⟩),
(3, ⟨false, 1, 8, [.int .i64 0], some (.int .i64), none, []⟩),
(4, ⟨false, 1, 1, [.bool false], some (.bool), none, []⟩),
(5, ⟨false, 1, 1, [.int .u8 0], some (.int .u8), none, []⟩),
(6, ⟨false, 1, 1, [.int .u8 0], some (.int .u8), none, []⟩),
(7, ⟨true, 4, 24, [.int .i64 0, .int .i64 0, .bool false, .int .u8 0], some (.prod (.int .i64) (.prod (.int .i64) (.prod .bool (.int .u8)))), none, [(0, 2), (1, 3), (2, 4), (3, 6)]⟩),
(8, ⟨true, 4, 24, [.int .i64 0, .int .i64 0, .bool false, .int .u8 0], some (.prod (.int .i64) (.prod (.int .i64) (.prod .bool (.int .u8)))), none, [(0, 2), (1, 3), (2, 4), (3, 6)]⟩),
(9, ⟨false, 1, 16, [.str []], some (.str), none, []⟩),
(10, ⟨false, 1, 16, [.str []], some (.str), none, []⟩),
(11, ⟨false, 1, 16, [.str []], some (.str), none, []⟩),
(12, ⟨false, 1, 8, [.int .u64 0], some (.int .u64), none, []⟩),
(13, ⟨true, 2, 24, [.str [], .int .u64 0], some (.prod .str (.int .u64)), none, [(0, 9), (1, 12)]⟩),
(14, ⟨true, 2, 24, [.str [], .int .u64 0], some (.prod .str (.int .u64)), none, [(0, 9), (1, 12)]⟩),
(15, ⟨false, 1, 8, [.undef], none, none, []⟩),
(16, ⟨false, 1, 8, [.undef], none, none, []⟩),
(17, ⟨false, 1, 8, [.undef], none, none, []⟩),
(18, ⟨true, 1, 8, [.undef], none, none, [(0, 17)]⟩),
(19, ⟨true, 1, 8, [.undef], none, none, [(0, 17)]⟩),
(20, ⟨false, 1, 16, [.undef], none, none, []⟩),
(21, ⟨false, 1, 4, [.int .i32 0], some (.int .i32), none, []⟩),
(22, ⟨false, 1, 24, [.emp 98 (.prod .str (.int .i64))], some (.sl 98 (.prod .str (.int .i64))), some 98, []⟩),
(23, ⟨false, 1, 24, [.emp 145 (.prod (.int .i64) (.sl 216 (.prod (.int .i64) (.prod .bool (.prod (.sl 222 (.prod (.int .i64) (.prod (.int .i64) (.prod (.int .i64) (.prod (.int .i64) (.prod (.int .i64) (.prod (.sl 182 (.int .u64)) (.sl 2 (.int .i64))))))))) (.sl 222 (.prod (.int .i64) (.prod (.int .i64) (.prod (.int .i64) (.prod (.int .i64) (.prod (.int .i64) (.prod (.sl 182 (.int .u64)) (.sl 2 (.int .i64))))))))))))))], some (.sl 145 (.prod (.int .i64) (.sl 216 (.prod (.int .i64) (.prod .bool (.prod (.sl 222 (.prod (.int .i64) (.prod (.int .i64) (.prod (.int .i64) (.prod (.int .i64) (.prod (.int .i64) (.prod (.sl 182 (.int .u64)) (.sl 2 (.int .i64))))))))) (.sl 222 (.prod (.int .i64) (.prod (.int .i64) (.prod (.int .i64) (.prod (.int .i64) (.prod (.int .i64) (.prod (.sl 182 (.int .u64)) (.sl 2 (.int .i64))))))))))))))), some 145, []⟩),
(24, ⟨true, 3, 56, [.emp 98 (.prod .str (.int .i64)), .emp 145 (.prod (.int .i64) (.sl 216 (.prod (.int .i64) (.prod .bool (.prod (.sl 222 (.prod (.int .i64) (.prod (.int .i64) (.prod (.int .i64) (.prod (.int .i64) (.prod (.int .i64) (.prod (.sl 182 (.int .u64)) (.sl 2 (.int .i64))))))))) (.sl 222 (.prod (.int .i64) (.prod (.int .i64) (.prod (.int .i64) (.prod (.int .i64) (.prod (.int .i64) (.prod (.sl 182 (.int .u64)) (.sl 2 (.int .i64)))))))))))))), .int .i64 0], some (.prod (.sl 98 (.prod .str (.int .i64))) (.prod (.sl 145 (.prod (.int .i64) (.sl 216 (.prod (.int .i64) (.prod .bool (.prod (.sl 222 (.prod (.int .i64) (.prod (.int .i64) (.prod (.int .i64) (.prod (.int .i64) (.prod (.int .i64) (.prod (.sl 182 (.int .u64)) (.sl 2 (.int .i64))))))))) (.sl 222 (.prod (.int .i64) (.prod (.int .i64) (.prod (.int .i64) (.prod (.int .i64) (.prod (.int .i64) (.prod (.sl 182 (.int .u64)) (.sl 2 (.int .i64))))))))))))))) (.int .i64))), none, [(0, 22), (1, 23), (2, 2)]⟩),
(25, ⟨true, 3, 56, [.emp 98 (.prod .str (.int .i64)), .emp 145 (.prod (.int .i64) (.sl 216 (.prod (.int .i64) (.prod .bool (.prod (.sl 222 (.prod (.int .i64) (.prod (.int .i64) (.prod (.int .i64) (.prod (.int .i64) (.prod (.int .i64) (.prod (.sl 182 (.int .u64)) (.sl 2 (.int .i64))))))))) (.sl 222 (.prod (.int .i64) (.prod (.int .i64) (.prod (.int .i64) (.prod (.int .i64) (.prod (.int .i64) (.prod (.sl 182 (.int .u64)) (.sl 2 (.int .i64)))))))))))))), .int .i64 0], some (.prod (.sl 98 (.prod .str (.int .i64))) (.prod (.sl 145 (.prod (.int .i64) (.sl 216 (.prod (.int .i64) (.prod .bool (.prod (.sl 222 (.prod (.int .i64) (.prod (.int .i64) (.prod (.int .i64) (.prod (.int .i64) (.prod (.int .i64) (.prod (.sl 182 (.int .u64)) (.sl 2 (.int .i64))))))))) (.sl 222 (.prod (.int .i64) (.prod (.int .i64) (.prod (.int .i64) (.prod (.int .i64) (.prod (.int .i64) (.prod (.sl 182 (.int .u64)) (.sl 2 (.int .i64))))))))))))))) (.int .i64))), none, [(0, 22), (1, 23), (2, 2)]⟩),
(26, ⟨false, 1, 8, [.undef], none, none, []⟩),
(27, ⟨false, 1, 24, [.emp 81 (.prod (.int .i64) (.prod .bool (.prod (.sl 155 (.prod (.int .i64) (.prod (.int .i64) (.prod (.int .i64) (.prod (.int .i64) (.prod (.int .i64) (.prod (.sl 182 (.int .u64)) (.sl 2 (.int .i64))))))))) (.sl 155 (.prod (.int .i64) (.prod (.int .i64) (.prod (.int .i64) (.prod (.int .i64) (.prod (.int .i64) (.prod (.sl 182 (.int .u64)) (.sl 2 (.int .i64))))))))))))], some (.sl 81 (.prod (.int .i64) (.prod .bool (.prod (.sl 155 (.prod (.int .i64) (.prod (.int .i64) (.prod (.int .i64) (.prod (.int .i64) (.prod (.int .i64) (.prod (.sl 182 (.int .u64)) (.sl 2 (.int .i64))))))))) (.sl 155 (.prod (.int .i64) (.prod (.int .i64) (.prod (.int .i64) (.prod (.int .i64) (.prod (.int .i64) (.prod (.sl 182 (.int .u64)) (.sl 2 (.int .i64))))))))))))), some 81, []⟩),
(28, ⟨false, 1, 8, [.undef], none, none, []⟩),
(29, ⟨false, 1, 24, [.emp 89 (.prod .str (.int .i64))], some (.sl 89 (.prod .str (.int .i64))), some 89, []⟩),
(30, ⟨false, 1, 24, [.emp 91 (.prod (.int .i64) (.sl 81 (.prod (.int .i64) (.prod .bool (.prod (.sl 155 (.prod (.int .i64) (.prod (.int .i64) (.prod (.int .i64) (.prod (.int .i64) (.prod (.int .i64) (.prod (.sl 182 (.int .u64)) (.sl 2 (.int .i64))))))))) (.sl 155 (.prod (.int .i64) (.prod (.int .i64) (.prod (.int .i64) (.prod (.int .i64) (.prod (.int .i64) (.prod (.sl 182 (.int .u64)) (.sl 2 (.int .i64))))))))))))))], some (.sl 91 (.prod (.int .i64) (.sl 81 (.prod (.int .i64) (.prod .bool (.prod (.sl 155 (.prod (.int .i64) (.prod (.int .i64) (.prod (.int .i64) (.prod (.int .i64) (.prod (.int .i64) (.prod (.sl 182 (.int .u64)) (.sl 2 (.int .i64))))))))) (.sl 155 (.prod (.int .i64) (.prod (.int .i64) (.prod (.int .i64) (.prod (.int .i64) (.prod (.int .i64) (.prod (.sl 182 (.int .u64)) (.sl 2 (.int .i64))))))))))))))), some 91, []⟩),
(31, ⟨true, 3, 56, [.emp 89 (.prod .str (.int .i64)), .emp 91 (.prod (.int .i64) (.sl 81 (.prod (.int .i64) (.prod .bool (.prod (.sl 155 (.prod (.int .i64) (.prod (.int .i64) (.prod (.int .i64) (.prod (.int .i64) (.prod (.int .i64) (.prod (.sl 182 (.int .u64)) (.sl 2 (.int .i64))))))))) (.sl 155 (.prod (.int .i64) (.prod (.int .i64) (.prod (.int .i64) (.prod (.int .i64) (.prod (.int .i64) (.prod (.sl 182 (.int .u64)) (.sl 2 (.int .i64)))))))))))))), .int .i64 0], some (.prod (.sl 89 (.prod .str (.int .i64))) (.prod (.sl 91 (.prod (.int .i64) (.sl 81 (.prod (.int .i64) (.prod .bool (.prod (.sl 155 (.prod (.int .i64) (.prod (.int .i64) (.prod (.int .i64) (.prod (.int .i64) (.prod (.int .i64) (.prod (.sl 182 (.int .u64)) (.sl 2 (.int .i64))))))))) (.sl 155 (.prod (.int .i64) (.prod (.int .i64) (.prod (.int .i64) (.prod (.int .i64) (.prod (.int .i64) (.prod (.sl 182 (.int .u64)) (.sl 2 (.int .i64))))))))))))))) (.int .i64))), none, [(0, 29), (1, 30), (2, 2)]⟩),
(32, ⟨true, 3, 56, [.emp 89 (.prod .str (.int .i64)), .emp 91 (.prod (.int .i64) (.sl 81 (.prod (.int .i64) (.prod .bool (.prod (.sl 155 (.prod (.int .i64) (.prod (.int .i64) (.prod (.int .i64) (.prod (.int .i64) (.prod (.int .i64) (.prod (.sl 182 (.int .u64)) (.sl 2 (.int .i64))))))))) (.sl 155 (.prod (.int .i64) (.prod (.int .i64) (.prod (.int .i64) (.prod (.int .i64) (.prod (.int .i64) (.prod (.sl 182 (.int .u64)) (.sl 2 (.int .i64)))))))))))))), .int .i64 0], some (.prod (.sl 89 (.prod .str (.int .i64))) (.prod (.sl 91 (.prod (.int .i64) (.sl 81 (.prod (.int .i64) (.prod .bool (.prod (.sl 155 (.prod (.int .i64) (.prod (.int .i64) (.prod (.int .i64) (.prod (.int .i64) (.prod (.int .i64) (.prod (.sl 182 (.int .u64)) (.sl 2 (.int .i64))))))))) (.sl 155 (.prod (.int .i64) (.prod (.int .i64) (.prod (.int .i64) (.prod (.int .i64) (.prod (.int .i64) (.prod (.sl 182 (.int .u64)) (.sl 2 (.int .i64))))))))))))))) (.int .i64))), none, [(0, 29), (1, 30), (2, 2)]⟩),
(33, ⟨false, 1, 8, [.undef], none, none, []⟩),
(34, ⟨false, 1, 8, [.undef], none, none, []⟩),
(35, ⟨false, 1, 8, [.undef], none, none, []⟩),
(36, ⟨false, 1, 8, [.undef], none, none, []⟩),
(37, ⟨false, 1, 8, [.undef], none, none, []⟩),
(38, ⟨false, 1, 8, [.undef], none, none, []⟩),
(39, ⟨false, 1, 24, [.emp 5 (.int .u8)], some (.sl 5 (.int .u8)), some 5, []⟩),
(40, ⟨false, 1, 8, [.undef], none, none, []⟩),
(41, ⟨false, 1, 8, [.undef], none, none, []⟩),
(42, ⟨false, 1, 8, [.undef], none, none, []⟩),
(43, ⟨false, 1, 24, [.emp 104 (.prod (.int .i64) (.sl 222 (.prod (.int .i64) (.prod (.int .i64) (.prod (.int .i64) (.prod (.int .i64) (.prod (.int .i64) (.prod (.sl 182 (.int .u64)) (.sl 2 (.int .i64))))))))))], some (.sl 104 (.prod (.int .i64) (.sl 222 (.prod (.int .i64) (.prod (.int .i64) (.prod (.int .i64) (.prod (.int .i64) (.prod (.int .i64) (.prod (.sl 182 (.int .u64)) (.sl 2 (.int .i64))))))))))), some 104, []⟩),
(44, ⟨false, 1, 8, [.undef], none, none, []⟩),
(45, ⟨false, 1, 8, [.undef], none, none, []⟩),
(46, ⟨false, 1, 8, [.undef], none, none, []⟩),
(47, ⟨false, 1, 8, [.undef], none, none, []⟩),
(48, ⟨false, 1, 24, [.emp 107 (.prod (.int .i64) (.sl 155 (.prod (.int .i64) (.prod (.int .i64) (.prod (.int .i64) (.prod (.int .i64) (.prod (.int .i64) (.prod (.sl 182 (.int .u64)) (.sl 2 (.int .i64))))))))))], some (.sl 107 (.prod (.int .i64) (.sl 155 (.prod (.int .i64) (.prod (.int .i64) (.prod (.int .i64) (.prod (.int .i64) (.prod (.int .i64) (.prod (.sl 182 (.int .u64)) (.sl 2 (.int .i64))))))))))), some 107, []⟩),
(49, ⟨false, 1, 8, [.undef], none, none, []⟩),
(50, ⟨false, 1, 8, [.undef], none, none, []⟩),
(51, ⟨false, 1, 8, [.undef], none, none, []⟩),
(52, ⟨false, 1, 8, [.undef], none, none, []⟩),
(53, ⟨false, 1, 8, [.undef], none, none, []⟩),
(55, ⟨false, 1, 8, [.undef], none, none, []⟩),
(56, ⟨false, 1, 8, [.undef], none, none, []⟩),
(57, ⟨false, 1, 24, [.emp 182 (.int .u64)], some (.sl 182 (.int .u64)), some 182, []⟩),
(58, ⟨true, 2, 32, [.int .i64 0, .emp 182 (.int .u64)], some (.prod (.int .i64) (.sl 182 (.int .u64))), none, [(0, 2), (1, 57)]⟩),
(59, ⟨true, 2, 32, [.int .i64 0, .emp 182 (.int .u64)], some (.prod (.int .i64) (.sl 182 (.int .u64))), none, [(0, 2), (1, 57)]⟩),
(60, ⟨false, 1, 24, [.emp 59 (.prod (.int .i64) (.sl 182 (.int .u64)))], some (.sl 59 (.prod (.int .i64) (.sl 182 (.int .u64)))), some 59, []⟩),
(62, ⟨false, 1, 8, [.undef], none, none, []⟩),
(63, ⟨false, 1, 8, [.undef], none, none, []⟩),
(64, ⟨false, 1, 8, [.undef], none, none, []⟩),
(66, ⟨false, 1, 8, [.undef], none, none, []⟩),
(67, ⟨false, 1, 8, [.undef], none, none, []⟩),
(69, ⟨false, 1, 8, [.undef], none, none, []⟩),
(70, ⟨false, 1, 8, [.undef], none, none, []⟩),
(71, ⟨false, 1, 8, [.undef], none, none, []⟩),
(72, ⟨false, 1, 8, [.undef], none, none, []⟩),
(73, ⟨false, 1, 8, [.undef], none, none, []⟩),
(74, ⟨false, 1, 8, [.undef], none, none, []⟩),
(75, ⟨false, 1, 8, [.undef], none, none, []⟩),
(76, ⟨false, 1, 8, [.undef], none, none, []⟩),
(77, ⟨false, 1, 24, [.emp 155 (.prod (.int .i64) (.prod (.int .i64) (.prod (.int .i64) (.prod (.int .i64) (.prod (.int .i64) (.prod (.sl 182 (.int .u64)) (.sl 2 (.int .i64))))))))], some (.sl 155 (.prod (.int .i64) (.prod (.int .i64) (.prod (.int .i64) (.prod (.int .i64) (.prod (.int .i64) (.prod (.sl 182 (.int .u64)) (.sl 2 (.int .i64))))))))), some 155, []⟩),
(78, ⟨true, 1, 24, [.emp 155 (.prod (.int .i64) (.prod (.int .i64) (.prod (.int .i64) (.prod (.int .i64) (.prod (.int .i64) (.prod (.sl 182 (.int .u64)) (.sl 2 (.int .i64))))))))], some (.sl 155 (.prod (.int .i64) (.prod (.int .i64) (.prod (.int .i64) (.prod (.int .i64) (.prod (.int .i64) (.prod (.sl 182 (.int .u64)) (.sl 2 (.int .i64))))))))), none, [(0, 77)]⟩),
(79, ⟨true, 1, 24, [.emp 155 (.prod (.int .i64) (.prod (.int .i64) (.prod (.int .i64) (.prod (.int .i64) (.prod (.int .i64) (.prod (.sl 182 (.int .u64)) (.sl 2 (.int .i64))))))))], some (.sl 155 (.prod (.int .i64) (.prod (.int .i64) (.prod (.int .i64) (.prod (.int .i64) (.prod (.int .i64) (.prod (.sl 182 (.int .u64)) (.sl 2 (.int .i64))))))))), none, [(0, 77)]⟩),
(80, ⟨true, 4, 64, [.int .i64 0, .bool false, .emp 155 (.prod (.int .i64) (.prod (.int .i64) (.prod (.int .i64) (.prod (.int .i64) (.prod (.int .i64) (.prod (.sl 182 (.int .u64)) (.sl 2 (.int .i64)))))))), .emp 155 (.prod (.int .i64) (.prod (.int .i64) (.prod (.int .i64) (.prod (.int .i64) (.prod (.int .i64) (.prod (.sl 182 (.int .u64)) (.sl 2 (.int .i64))))))))], some (.prod (.int .i64) (.prod .bool (.prod (.sl 155 (.prod (.int .i64) (.prod (.int .i64) (.prod (.int .i64) (.prod (.int .i64) (.prod (.int .i64) (.prod (.sl 182 (.int .u64)) (.sl 2 (.int .i64))))))))) (.sl 155 (.prod (.int .i64) (.prod (.int .i64) (.prod (.int .i64) (.prod (.int .i64) (.prod (.int .i64) (.prod (.sl 182 (.int .u64)) (.sl 2 (.int .i64)))))))))))), none, [(0, 2), (1, 4), (2, 79), (3, 79)]⟩),
(81, ⟨true, 4, 64, [.int .i64 0, .bool false, .emp 155 (.prod (.int .i64) (.prod (.int .i64) (.prod (.int .i64) (.prod (.int .i64) (.prod (.int .i64) (.prod (.sl 182 (.int .u64)) (.sl 2 (.int .i64)))))))), .emp 155 (.prod (.int .i64) (.prod (.int .i64) (.prod (.int .i64) (.prod (.int .i64) (.prod (.int .i64) (.prod (.sl 182 (.int .u64)) (.sl 2 (.int .i64))))))))], some (.prod (.int .i64) (.prod .bool (.prod (.sl 155 (.prod (.int .i64) (.prod (.int .i64) (.prod (.int .i64) (.prod (.int .i64) (.prod (.int .i64) (.prod (.sl 182 (.int .u64)) (.sl 2 (.int .i64))))))))) (.sl 155 (.prod (.int .i64) (.prod (.int .i64) (.prod (.int .i64) (.prod (.int .i64) (.prod (.int .i64) (.prod (.sl 182 (.int .u64)) (.sl 2 (.int .i64)))))))))))), none, [(0, 2), (1, 4), (2, 79), (3, 79)]⟩),
(82, ⟨false, 1, 8, [.undef], none, none, []⟩),
(83, ⟨false, 1, 8, [.undef], none, none, []⟩),
(84, ⟨false, 1, 8, [.undef], none, none, []⟩),
(85, ⟨false, 1, 8, [.undef], none, none, []⟩),
(86, ⟨false, 1, 8, [.undef], none, none, []⟩),
(87, ⟨false, 1, 8, [.undef], none, none, []⟩),
(88, ⟨true, 2, 24, [.str [], .int .i64 0], some (.prod .str (.int .i64)), none, [(0, 9), (1, 2)]⟩),
(89, ⟨true, 2, 24, [.str [], .int .i64 0], some (.prod .str (.int .i64)), none, [(0, 9), (1, 2)]⟩),
(90, ⟨true, 2, 32, [.int .i64 0, .emp 81 (.prod (.int .i64) (.prod .bool (.prod (.sl 155 (.prod (.int .i64) (.prod (.int .i64) (.prod (.int .i64) (.prod (.int .i64) (.prod (.int .i64) (.prod (.sl 182 (.int .u64)) (.sl 2 (.int .i64))))))))) (.sl 155 (.prod (.int .i64) (.prod (.int .i64) (.prod (.int .i64) (.prod (.int .i64) (.prod (.int .i64) (.prod (.sl 182 (.int .u64)) (.sl 2 (.int .i64))))))))))))], some (.prod (.int .i64) (.sl 81 (.prod (.int .i64) (.prod .bool (.prod (.sl 155 (.prod (.int .i64) (.prod (.int .i64) (.prod (.int .i64) (.prod (.int .i64) (.prod (.int .i64) (.prod (.sl 182 (.int .u64)) (.sl 2 (.int .i64))))))))) (.sl 155 (.prod (.int .i64) (.prod (.int .i64) (.prod (.int .i64) (.prod (.int .i64) (.prod (.int .i64) (.prod (.sl 182 (.int .u64)) (.sl 2 (.int .i64)))))))))))))), none, [(0, 2), (1, 27)]⟩),
(91, ⟨true, 2, 32, [.int .i64 0, .emp 81 (.prod (.int .i64) (.prod .bool (.prod (.sl 155 (.prod (.int .i64) (.prod (.int .i64) (.prod (.int .i64) (.prod (.int .i64) (.prod (.int .i64) (.prod (.sl 182 (.int .u64)) (.sl 2 (.int .i64))))))))) (.sl 155 (.prod (.int .i64) (.prod (.int .i64) (.prod (.int .i64) (.prod (.int .i64) (.prod (.int .i64) (.prod (.sl 182 (.int .u64)) (.sl 2 (.int .i64))))))))))))], some (.prod (.int .i64) (.sl 81 (.prod (.int .i64) (.prod .bool (.prod (.sl 155 (.prod (.int .i64) (.prod (.int .i64) (.prod (.int .i64) (.prod (.int .i64) (.prod (.int .i64) (.prod (.sl 182 (.int .u64)) (.sl 2 (.int .i64))))))))) (.sl 155 (.prod (.int .i64) (.prod (.int .i64) (.prod (.int .i64) (.prod (.int .i64) (.prod (.int .i64) (.prod (.sl 182 (.int .u64)) (.sl 2 (.int .i64)))))))))))))), none, [(0, 2), (1, 27)]⟩),
(92, ⟨false, 1, 8, [.undef], none, none, []⟩),
(93, ⟨true, 1, 24, [.emp 5 (.int .u8)], some (.sl 5 (.int .u8)), none, [(0, 39)]⟩),
(94, ⟨true, 1, 24, [.emp 5 (.int .u8)], some (.sl 5 (.int .u8)), none, [(0, 39)]⟩),
(95, ⟨false, 1, 8, [.undef], none, none, []⟩),
(96, ⟨false, 1, 8, [.undef], none, none, []⟩),
(97, ⟨false, 1, 8, [.undef], none, none, []⟩),
(98, ⟨true, 2, 24, [.str [], .int .i64 0], some (.prod .str (.int .i64)), none, [(0, 9), (1, 2)]⟩),
(99, ⟨false, 1, 8, [.undef], none, none, []⟩),
(100, ⟨false, 1, 24, [.emp 222 (.prod (.int .i64) (.prod (.int .i64) (.prod (.int .i64) (.prod (.int .i64) (.prod (.int .i64) (.prod (.sl 182 (.int .u64)) (.sl 2 (.int .i64))))))))], some (.sl 222 (.prod (.int .i64) (.prod (.int .i64) (.prod (.int .i64) (.prod (.int .i64) (.prod (.int .i64) (.prod (.sl 182 (.int .u64)) (.sl 2 (.int .i64))))))))), some 222, []⟩),
(101, ⟨true, 1, 24, [.emp 222 (.prod (.int .i64) (.prod (.int .i64) (.prod (.int .i64) (.prod (.int .i64) (.prod (.int .i64) (.prod (.sl 182 (.int .u64)) (.sl 2 (.int .i64))))))))], some (.sl 222 (.prod (.int .i64) (.prod (.int .i64) (.prod (.int .i64) (.prod (.int .i64) (.prod (.int .i64) (.prod (.sl 182 (.int .u64)) (.sl 2 (.int .i64))))))))), none, [(0, 100)]⟩),
(102, ⟨true, 1, 24, [.emp 222 (.prod (.int .i64) (.prod (.int .i64) (.prod (.int .i64) (.prod (.int .i64) (.prod (.int .i64) (.prod (.sl 182 (.int .u64)) (.sl 2 (.int .i64))))))))], some (.sl 222 (.prod (.int .i64) (.prod (.int .i64) (.prod (.int .i64) (.prod (.int .i64) (.prod (.int .i64) (.prod (.sl 182 (.int .u64)) (.sl 2 (.int .i64))))))))), none, [(0, 100)]⟩),
(103, ⟨true, 2, 32, [.int .i64 0, .emp 222 (.prod (.int .i64) (.prod (.int .i64) (.prod (.int .i64) (.prod (.int .i64) (.prod (.int .i64) (.prod (.sl 182 (.int .u64)) (.sl 2 (.int .i64))))))))], some (.prod (.int .i64) (.sl 222 (.prod (.int .i64) (.prod (.int .i64) (.prod (.int .i64) (.prod (.int .i64) (.prod (.int .i64) (.prod (.sl 182 (.int .u64)) (.sl 2 (.int .i64)))))))))), none, [(0, 2), (1, 102)]⟩),
(104, ⟨true, 2, 32, [.int .i64 0, .emp 222 (.prod (.int .i64) (.prod (.int .i64) (.prod (.int .i64) (.prod (.int .i64) (.prod (.int .i64) (.prod (.sl 182 (.int .u64)) (.sl 2 (.int .i64))))))))], some (.prod (.int .i64) (.sl 222 (.prod (.int .i64) (.prod (.int .i64) (.prod (.int .i64) (.prod (.int .i64) (.prod (.int .i64) (.prod (.sl 182 (.int .u64)) (.sl 2 (.int .i64)))))))))), none, [(0, 2), (1, 102)]⟩),
(105, ⟨false, 1, 24, [.emp 2 (.int .i64)], some (.sl 2 (.int .i64)), some 2, []⟩),
(106, ⟨true, 2, 32, [.int .i64 0, .emp 155 (.prod (.int .i64) (.prod (.int .i64) (.prod (.int .i64) (.prod (.int .i64) (.prod (.int .i64) (.prod (.sl 182 (.int .u64)) (.sl 2 (.int .i64))))))))], some (.prod (.int .i64) (.sl 155 (.prod (.int .i64) (.prod (.int .i64) (.prod (.int .i64) (.prod (.int .i64) (.prod (.int .i64) (.prod (.sl 182 (.int .u64)) (.sl 2 (.int .i64)))))))))), none, [(0, 2), (1, 79)]⟩),
(107, ⟨true, 2, 32, [.int .i64 0, .emp 155 (.prod (.int .i64) (.prod (.int .i64) (.prod (.int .i64) (.prod (.int .i64) (.prod (.int .i64) (.prod (.sl 182 (.int .u64)) (.sl 2 (.int .i64))))))))], some (.prod (.int .i64) (.sl 155 (.prod (.int .i64) (.prod (.int .i64) (.prod (.int .i64) (.prod (.int .i64) (.prod (.int .i64) (.prod (.sl 182 (.int .u64)) (.sl 2 (.int .i64)))))))))), none, [(0, 2), (1, 79)]⟩),
(108, ⟨false, 1, 8, [.undef], none, none, []⟩),
(109, ⟨false, 1, 8, [.undef], none, none, []⟩),
(110, ⟨false, 1, 8, [.undef], none, none, []⟩),
(111, ⟨false, 1, 8, [.undef], none, none, []⟩),
(112, ⟨false, 1, 8, [.undef], none, none, []⟩),
(113, ⟨false, 1, 8, [.undef], none, none, []⟩),
(114, ⟨false, 1, 24, [.emp 4 .bool], some (.sl 4 .bool), some 4, []⟩),
(115, ⟨false, 1, 8, [.undef], none, none, []⟩),
(116, ⟨false, 1, 8, [.undef], none, none, []⟩),
(117, ⟨false, 1, 8, [.undef], none, none, []⟩),
(118, ⟨false, 1, 8, [.undef], none, none, []⟩),
(119, ⟨false, 1, 8, [.undef], none, none, []⟩),
(120, ⟨false, 1, 8, [.undef], none, none, []⟩),
(121, ⟨false, 1, 8, [.undef], none, none, []⟩),
(122, ⟨false, 1, 8, [.undef], none, none, []⟩),
(123, ⟨false, 1, 8, [.undef], none, none, []⟩),
(124, ⟨false, 1, 8, [.undef], none, none, []⟩),
(125, ⟨false, 1, 8, [.int .u64 0], some (.int .u64), none, []⟩),
(126, ⟨false, 1, 8, [.undef], none, none, []⟩),
(127, ⟨false, 1, 8, [.undef], none, none, []⟩),
(128, ⟨false, 1, 8, [.undef], none, none, []⟩),
(129, ⟨false, 1, 8, [.undef], none, none, []⟩),
(130, ⟨false, 1, 8, [.undef], none, none, []⟩),
(131, ⟨false, 1, 8, [.undef], none, none, []⟩),
(132, ⟨false, 1, 8, [.undef], none, none, []⟩),
(133, ⟨false, 1, 8, [.undef], none, none, []⟩),
(134, ⟨false, 1, 8, [.undef], none, none, []⟩),
(135, ⟨false, 1, 8, [.undef], none, none, []⟩),
(136, ⟨false, 1, 8, [.undef], none, none, []⟩),
(137, ⟨true, 3, 40, [.emp 5 (.int .u8), .int .i64 0, .int .i64 0], some (.prod (.sl 5 (.int .u8)) (.prod (.int .i64) (.int .i64))), none, [(0, 39), (1, 3), (2, 2)]⟩),
(138, ⟨true, 3, 40, [.emp 5 (.int .u8), .int .i64 0, .int .i64 0], some (.prod (.sl 5 (.int .u8)) (.prod (.int .i64) (.int .i64))), none, [(0, 39), (1, 3), (2, 2)]⟩),
(139, ⟨false, 1, 8, [.undef], none, none, []⟩),
(140, ⟨true, 2, 32, [.emp 5 (.int .u8), .int .i64 0], some (.prod (.sl 5 (.int .u8)) (.int .i64)), none, [(0, 39), (1, 2)]⟩),
(141, ⟨true, 2, 32, [.emp 5 (.int .u8), .int .i64 0], some (.prod (.sl 5 (.int .u8)) (.int .i64)), none, [(0, 39), (1, 2)]⟩),
(142, ⟨false, 1, 8, [.undef], none, none, []⟩),
(143, ⟨false, 1, 24, [.emp 216 (.prod (.int .i64) (.prod .bool (.prod (.sl 222 (.prod (.int .i64) (.prod (.int .i64) (.prod (.int .i64) (.prod (.int .i64) (.prod (.int .i64) (.prod (.sl 182 (.int .u64)) (.sl 2 (.int .i64))))))))) (.sl 222 (.prod (.int .i64) (.prod (.int .i64) (.prod (.int .i64) (.prod (.int .i64) (.prod (.int .i64) (.prod (.sl 182 (.int .u64)) (.sl 2 (.int .i64))))))))))))], some (.sl 216 (.prod (.int .i64) (.prod .bool (.prod (.sl 222 (.prod (.int .i64) (.prod (.int .i64) (.prod (.int .i64) (.prod (.int .i64) (.prod (.int .i64) (.prod (.sl 182 (.int .u64)) (.sl 2 (.int .i64))))))))) (.sl 222 (.prod (.int .i64) (.prod (.int .i64) (.prod (.int .i64) (.prod (.int .i64) (.prod (.int .i64) (.prod (.sl 182 (.int .u64)) (.sl 2 (.int .i64))))))))))))), some 216, []⟩),
(144, ⟨true, 2, 32, [.int .i64 0, .emp 216 (.prod (.int .i64) (.prod .bool (.prod (.sl 222 (.prod (.int .i64) (.prod (.int .i64) (.prod (.int .i64) (.prod (.int .i64) (.prod (.int .i64) (.prod (.sl 182 (.int .u64)) (.sl 2 (.int .i64))))))))) (.sl 222 (.prod (.int .i64) (.prod (.int .i64) (.prod (.int .i64) (.prod (.int .i64) (.prod (.int .i64) (.prod (.sl 182 (.int .u64)) (.sl 2 (.int .i64))))))))))))], some (.prod (.int .i64) (.sl 216 (.prod (.int .i64) (.prod .bool (.prod (.sl 222 (.prod (.int .i64) (.prod (.int .i64) (.prod (.int .i64) (.prod (.int .i64) (.prod (.int .i64) (.prod (.sl 182 (.int .u64)) (.sl 2 (.int .i64))))))))) (.sl 222 (.prod (.int .i64) (.prod (.int .i64) (.prod (.int .i64) (.prod (.int .i64) (.prod (.int .i64) (.prod (.sl 182 (.int .u64)) (.sl 2 (.int .i64)))))))))))))), none, [(0, 2), (1, 143)]⟩),
(145, ⟨true, 2, 32, [.int .i64 0, .emp 216 (.prod (.int .i64) (.prod .bool (.prod (.sl 222 (.prod (.int .i64) (.prod (.int .i64) (.prod (.int .i64) (.prod (.int .i64) (.prod (.int .i64) (.prod (.sl 182 (.int .u64)) (.sl 2 (.int .i64))))))))) (.sl 222 (.prod (.int .i64) (.prod (.int .i64) (.prod (.int .i64) (.prod (.int .i64) (.prod (.int .i64) (.prod (.sl 182 (.int .u64)) (.sl 2 (.int .i64))))))))))))], some (.prod (.int .i64) (.sl 216 (.prod (.int .i64) (.prod .bool (.prod (.sl 222 (.prod (.int .i64) (.prod (.int .i64) (.prod (.int .i64) (.prod (.int .i64) (.prod (.int .i64) (.prod (.sl 182 (.int .u64)) (.sl 2 (.int .i64))))))))) (.sl 222 (.prod (.int .i64) (.prod (.int .i64) (.prod (.int .i64) (.prod (.int .i64) (.prod (.int .i64) (.prod (.sl 182 (.int .u64)) (.sl 2 (.int .i64)))))))))))))), none, [(0, 2), (1, 143)]⟩),
(146, ⟨false, 1, 8, [.undef], none, none, []⟩),
(147, ⟨false, 1, 8, [.undef], none, none, []⟩),
(148, ⟨false, 1, 8, [.undef], none, none, []⟩),
(149, ⟨false, 1, 8, [.undef], none, none, []⟩),
(150, ⟨false, 1, 8, [.undef], none, none, []⟩),
(151, ⟨false, 1, 8, [.undef], none, none, []⟩),
(152, ⟨false, 1, 8, [.undef], none, none, []⟩),
(153, ⟨false, 1, 8, [.undef], none, none, []⟩),
(154, ⟨true, 7, 88, [.int .i64 0, .int .i64 0, .int .i64 0, .int .i64 0, .int .i64 0, .emp 182 (.int .u64), .emp 2 (.int .i64)], some (.prod (.int .i64) (.prod (.int .i64) (.prod (.int .i64) (.prod (.int .i64) (.prod (.int .i64) (.prod (.sl 182 (.int .u64)) (.sl 2 (.int .i64)))))))), none, [(0, 2), (1, 2), (2, 2), (3, 2), (4, 59), (6, 105)]⟩),
(155, ⟨true, 7, 88, [.int .i64 0, .int .i64 0, .int .i64 0, .int .i64 0, .int .i64 0, .emp 182 (.int .u64), .emp 2 (.int .i64)], some (.prod (.int .i64) (.prod (.int .i64) (.prod (.int .i64) (.prod (.int .i64) (.prod (.int .i64) (.prod (.sl 182 (.int .u64)) (.sl 2 (.int .i64)))))))), none, [(0, 2), (1, 2), (2, 2), (3, 2), (4, 59), (6, 105)]⟩),
(156, ⟨false, 1, 8, [.undef], none, none, []⟩),
(157, ⟨false, 1, 8, [.undef], none, none, []⟩),
(158, ⟨false, 1, 8, [.undef], none, none, []⟩),
(159, ⟨false, 1, 8, [.undef], none, none, []⟩),
(160, ⟨false, 1, 8, [.undef], none, none, []⟩),
(161, ⟨false, 1, 8, [.undef], none, none, []⟩),
(162, ⟨false, 1, 8, [.undef], none, none, []⟩),
(163, ⟨false, 1, 8, [.undef], none, none, []⟩),
(164, ⟨false, 1, 8, [.undef], none, none, []⟩),
(165, ⟨false, 1, 8, [.undef], none, none, []⟩),
(166, ⟨false, 1, 8, [.undef], none, none, []⟩),
(167, ⟨false, 1, 8, [.undef], none, none, []⟩),
(168, ⟨false, 1, 8, [.undef], none, none, []⟩),
(169, ⟨true, 2, 32, [.emp 5 (.int .u8), .int .i64 0], some (.prod (.sl 5 (.int .u8)) (.int .i64)), none, [(0, 39), (1, 3)]⟩),
(170, ⟨true, 2, 32, [.emp 5 (.int .u8), .int .i64 0], some (.prod (.sl 5 (.int .u8)) (.int .i64)), none, [(0, 39), (1, 3)]⟩),
(171, ⟨false, 1, 8, [.undef], none, none, []⟩),
(172, ⟨false, 1, 8, [.undef], none, none, []⟩),
(173, ⟨false, 1, 8, [.undef], none, none, []⟩),
(174, ⟨false, 1, 8, [.undef], none, none, []⟩),
(175, ⟨false, 1, 8, [.undef], none, none, []⟩),
(177, ⟨false, 1, 8, [.undef], none, none, []⟩),
(178, ⟨false, 1, 8, [.undef], none, none, []⟩),
(179, ⟨false, 1, 8, [.undef], none, none, []⟩),
(180, ⟨false, 1, 8, [.undef], none, none, []⟩),
(181, ⟨false, 1, 8, [.undef], none, none, []⟩),
(182, ⟨false, 1, 8, [.int .u64 0], some (.int .u64), none, []⟩),
(183, ⟨false, 1, 8, [.undef], none, none, []⟩),
(184, ⟨false, 1, 8, [.undef], none, none, []⟩),
(185, ⟨false, 1, 8, [.undef], none, none, []⟩),
(186, ⟨false, 1, 8, [.undef], none, none, []⟩),
(187, ⟨false, 1, 8, [.undef], none, none, []⟩),
(188, ⟨false, 1, 8, [.undef], none, none, []⟩),
(189, ⟨false, 1, 8, [.undef], none, none, []⟩),
(190, ⟨false, 1, 8, [.undef], none, none, []⟩),
(191, ⟨false, 1, 8, [.undef], none, none, []⟩),
(192, ⟨false, 1, 8, [.undef], none, none, []⟩),
(193, ⟨false, 1, 8, [.undef], none, none, []⟩),
(194, ⟨false, 1, 8, [.undef], none, none, []⟩),
(195, ⟨false, 1, 8, [.undef], none, none, []⟩),
(196, ⟨false, 1, 8, [.undef], none, none, []⟩),
(197, ⟨false, 1, 8, [.undef], none, none, []⟩),
(198, ⟨false, 1, 8, [.undef], none, none, []⟩),
(199, ⟨false, 1, 8, [.undef], none, none, []⟩),
(201, ⟨false, 1, 8, [.undef], none, none, []⟩),
(202, ⟨false, 1, 8, [.undef], none, none, []⟩),
(209, ⟨false, 1, 8, [.undef], none, none, []⟩),
(213, ⟨false, 1, 8, [.undef], none, none, []⟩),
(216, ⟨true, 4, 64, [.int .i64 0, .bool false, .emp 222 (.prod (.int .i64) (.prod (.int .i64) (.prod (.int .i64) (.prod (.int .i64) (.prod (.int .i64) (.prod (.sl 182 (.int .u64)) (.sl 2 (.int .i64)))))))), .emp 222 (.prod (.int .i64) (.prod (.int .i64) (.prod (.int .i64) (.prod (.int .i64) (.prod (.int .i64) (.prod (.sl 182 (.int .u64)) (.sl 2 (.int .i64))))))))], some (.prod (.int .i64) (.prod .bool (.prod (.sl 222 (.prod (.int .i64) (.prod (.int .i64) (.prod (.int .i64) (.prod (.int .i64) (.prod (.int .i64) (.prod (.sl 182 (.int .u64)) (.sl 2 (.int .i64))))))))) (.sl 222 (.prod (.int .i64) (.prod (.int .i64) (.prod (.int .i64) (.prod (.int .i64) (.prod (.int .i64) (.prod (.sl 182 (.int .u64)) (.sl 2 (.int .i64)))))))))))), none, [(0, 2), (1, 4), (2, 102), (3, 102)]⟩),
(220, ⟨true, 2, 32, [.int .i64 0, .emp 182 (.int .u64)], some (.prod (.int .i64) (.sl 182 (.int .u64))), none, [(0, 2), (1, 57)]⟩),
(221, ⟨true, 7, 88, [.int .i64 0, .int .i64 0, .int .i64 0, .int .i64 0, .int .i64 0, .emp 182 (.int .u64), .emp 2 (.int .i64)], some (.prod (.int .i64) (.prod (.int .i64) (.prod (.int .i64) (.prod (.int .i64) (.prod (.int .i64) (.prod (.sl 182 (.int .u64)) (.sl 2 (.int .i64)))))))), none, [(0, 2), (1, 2), (2, 2), (3, 2), (4, 220), (6, 105)]⟩),
(222, ⟨true, 7, 88, [.int .i64 0, .int .i64 0, .int .i64 0, .int .i64 0, .int .i64 0, .emp 182 (.int .u64), .emp 2 (.int .i64)], some (.prod (.int .i64) (.prod (.int .i64) (.prod (.int .i64) (.prod (.int .i64) (.prod (.int .i64) (.prod (.sl 182 (.int .u64)) (.sl 2 (.int .i64)))))))), none, [(0, 2), (1, 2), (2, 2), (3, 2), (4, 220), (6, 105)]⟩),
(223, ⟨false, 1, 8, [.undef], none, none, []⟩),
(224, ⟨false, 1, 8, [.undef], none, none, []⟩),
(225, ⟨false, 1, 8, [.undef], none, none, []⟩),
(226, ⟨false, 1, 8, [.undef], none, none, []⟩),
(227, ⟨false, 1, 8, [.undef], none, none, []⟩),
(228, ⟨false, 1, 8, [.undef], none, none, []⟩),
(229, ⟨false, 1, 8, [.int .i64 0], some (.int .i64), none, []⟩),
(243, ⟨false, 1, 8, [.undef], none, none, []⟩),
(244, ⟨false, 1, 8, [.undef], none, none, []⟩),
(245, ⟨false, 1, 8, [.undef], none, none, []⟩)]
noncomputable def fns : List (Nat × Func) := [(4, Try.f4), (8, Try.f8), (10, Try.f10), (12, Try.f12), (13, Try.f13), (14, Try.f14), (15, Try.f15), (17, Try.f17), (18, Try.f18), (19, Try.f19), (20, Try.f20), (21, Try.f21), (22, Try.f22), (25, Try.f25), (28, Try.f28), (43, Try.f43), (44, Try.f44), (46, Try.f46), (47, Try.f47), (49, Try.f49), (50, Try.f50), (51, Try.f51), (52, Try.f52), (53, Try.f53), (54, Try.f54), (56, Try.f56), (57, Try.f57), (58, Try.f58), (59, Try.f59), (60, Try.f60), (61, Try.f61), (66, Try.f66), (67, Try.f67), (69, Try.f69), (74, Try.f74), (87, Try.f87), (91, Try.f91), (94, Try.f94), (101, Try.f101), (102, Try.f102), (103, Try.f103), (105, Try.f105), (106, Try.f106), (107, Try.f107), (109, Try.f109), (110, Try.f110), (111, Try.f111), (112, Try.f112), (113, Try.f113), (116, Try.f116), (117, Try.f117), (118, Try.f118), (119, Try.f119), (120, Try.f120), (121, Try.f121), (122, Try.f122), (123, Try.f123), (124, Try.f124), (152, Try.f152), (154, Try.f154), (156, Try.f156), (157, Try.f157), (158, Try.f158), (159, Try.f159), (160, Try.f160), (161, Try.f161), (162, Try.f162), (163, Try.f163), (164, Try.f164), (173, Try.f173), (182, Try.f182), (184, Try.f184), (186, Try.f186), (187, Try.f187), (188, Try.f188), (189, Try.f189), (190, Try.f190), (191, Try.f191), (192, Try.f192), (193, Try.f193), (213, Try.f213), (221, Try.f221), (222, Try.f222), (223, Try.f223), (224, Try.f224), (225, Try.f225), (226, Try.f226), (227, Try.f227), (228, Try.f228), (229, Try.f229), (243, Try.f243), (244, Try.f244), (245, Try.f245)]
def fis : List (Nat × Fi) := [
(4, ⟨[], [], []⟩),
(8, ⟨[], [], []⟩),
(10, ⟨[], [], []⟩),
(12, ⟨[], [], [(4, ⟨⟨[0, 1, 5], []⟩, [(0, ⟨[], []⟩)], ⟨[4], []⟩⟩)]⟩),
(13, ⟨[], [], []⟩),
(14, ⟨[1], [], []⟩),
(15, ⟨[1], [], [(2, ⟨⟨[0, 1, 5], []⟩, [(0, ⟨[1], []⟩)], ⟨[4], []⟩⟩)]⟩),
(17, ⟨[], [], [(6, ⟨⟨[1, 3, 4], [(3, 0, .own 99)]⟩, [(0, ⟨[1, 3], []⟩)], ⟨[2], []⟩⟩), (11, ⟨⟨[1, 3, 5], [(3, 0, .own 99)]⟩, [(2, ⟨[3], []⟩)], ⟨[2], []⟩⟩), (16, ⟨⟨[1, 3, 5, 6, 7], [(3, 0, .own 99)]⟩, [(4, ⟨[1, 3, 5], []⟩)], ⟨[2], []⟩⟩)]⟩),
(18, ⟨[], [], [(7, ⟨⟨[1, 3, 23, 24, 25], []⟩, [(0, ⟨[1, 3], []⟩)], ⟨[2], []⟩⟩), (15, ⟨⟨[3, 48, 49, 50], []⟩, [(2, ⟨[3], []⟩)], ⟨[2], []⟩⟩), (20, ⟨⟨[3, 48, 49, 50, 62, 63, 64], []⟩, [(4, ⟨[3, 48, 49, 50], []⟩)], ⟨[2], []⟩⟩)]⟩),
(19, ⟨[], [], [(4, ⟨⟨[0, 1, 5], []⟩, [(0, ⟨[], []⟩)], ⟨[4], []⟩⟩)]⟩),
(20, ⟨[1], [], [(2, ⟨⟨[0, 1, 5], []⟩, [(0, ⟨[1], []⟩)], ⟨[4], []⟩⟩)]⟩),
(21, ⟨[], [], [(2, ⟨⟨[0, 1, 5], []⟩, [(0, ⟨[1], []⟩)], ⟨[4], []⟩⟩)]⟩),
(22, ⟨[], [], [(5, ⟨⟨[0, 1, 5], []⟩, [(0, ⟨[1], []⟩)], ⟨[4], []⟩⟩)]⟩),
(25, ⟨[], [], [(3, ⟨⟨[0, 3, 4], []⟩, [(0, ⟨[3], []⟩)], ⟨[2], []⟩⟩)]⟩),
(28, ⟨[], [], [(4, ⟨⟨[0, 1, 5], []⟩, [(0, ⟨[], []⟩)], ⟨[4], []⟩⟩)]⟩),
(43, ⟨[], [], [(5, ⟨⟨[0, 1, 5], []⟩, [(0, ⟨[1], []⟩)], ⟨[4], []⟩⟩)]⟩),
(44, ⟨[], [], [(5, ⟨⟨[1, 3, 4], []⟩, [(0, ⟨[1, 3], []⟩)], ⟨[2], []⟩⟩), (12, ⟨⟨[1, 3, 5, 6, 7], []⟩, [(2, ⟨[1, 5, 6], []⟩)], ⟨[2], []⟩⟩), (21, ⟨⟨[1, 3, 5, 6, 7, 9, 10], []⟩, [(4, ⟨[1, 3, 5, 6, 7, 9], []⟩)], ⟨[2], []⟩⟩)]⟩),
(46, ⟨[], [], [(3, ⟨⟨[0, 3, 4], []⟩, [(0, ⟨[3], []⟩)], ⟨[2], []⟩⟩)]⟩),
(47, ⟨[], [], [(5, ⟨⟨[1, 3, 34, 35, 36], []⟩, [(0, ⟨[1], []⟩)], ⟨[2], []⟩⟩), (12, ⟨⟨[1, 62, 63, 64], []⟩, [(2, ⟨[1], []⟩)], ⟨[2], []⟩⟩), (21, ⟨⟨[1, 8, 83, 84, 85], []⟩, [(4, ⟨[], []⟩)], ⟨[2], []⟩⟩)]⟩),
(49, ⟨[], [some 1], [(3, ⟨⟨[3, 10, 11, 12], [(3, 0, .own 1)]⟩, [(0, ⟨[3], []⟩)], ⟨[2], []⟩⟩)]⟩),
(50, ⟨[], [], []⟩),
(51, ⟨[], [], [(4, ⟨⟨[0, 1, 5], []⟩, [(0, ⟨[], []⟩)], ⟨[4], []⟩⟩)]⟩),
(52, ⟨[1], [], [(2, ⟨⟨[0, 1, 5], []⟩, [(0, ⟨[1], []⟩)], ⟨[4], []⟩⟩)]⟩),
(53, ⟨[1], [], [(2, ⟨⟨[0, 1, 5], []⟩, [(0, ⟨[1], []⟩)], ⟨[4], []⟩⟩)]⟩),
(54, ⟨[1], [], [(2, ⟨⟨[0, 1, 5], []⟩, [(0, ⟨[1], []⟩)], ⟨[4], []⟩⟩)]⟩),
(56, ⟨[2], [], [(1, ⟨⟨[0, 1], [(0, 0, .own 99)]⟩, [(0, ⟨[0, 1], []⟩)], ⟨[4], []⟩⟩)]⟩),
(57, ⟨[2], [], []⟩),
(58, ⟨[2], [], [(3, ⟨⟨[0, 3, 5], [(0, 0, .own 99)]⟩, [(0, ⟨[0], []⟩)], ⟨[4], []⟩⟩), (10, ⟨⟨[0, 3, 5, 6, 7], [(0, 0, .own 99)]⟩, [(2, ⟨[0, 3, 5], []⟩)], ⟨[4], []⟩⟩)]⟩),
(59, ⟨[1], [], [(0, ⟨⟨[0, 1], [(1000000, 0, .own 99)]⟩, [(0, ⟨[0, 1], []⟩)], ⟨[], []⟩⟩)]⟩),
(60, ⟨[1], [], []⟩),
(61, ⟨[], [], []⟩),
(66, ⟨[], [], [(5, ⟨⟨[0, 3, 4], []⟩, [(0, ⟨[3], []⟩)], ⟨[2], []⟩⟩), (10, ⟨⟨[0, 3, 4, 5], []⟩, [(2, ⟨[0, 3, 4], []⟩)], ⟨[2], []⟩⟩)]⟩),
(67, ⟨[], [], []⟩),
(69, ⟨[], [], [(5, ⟨⟨[0, 3, 9, 10, 11], []⟩, [(0, ⟨[3], []⟩)], ⟨[2], []⟩⟩)]⟩),
(74, ⟨[], [], []⟩),
(87, ⟨[], [], [(5, ⟨⟨[0, 5, 12, 13, 14], []⟩, [(0, ⟨[], []⟩)], ⟨[4], []⟩⟩)]⟩),
(91, ⟨[], [], [(4, ⟨⟨[1, 3], []⟩, [(0, ⟨[], []⟩)], ⟨[2], []⟩⟩)]⟩),
(94, ⟨[], [], []⟩),
(101, ⟨[], [], []⟩),
(102, ⟨[], [], []⟩),
(103, ⟨[], [], [(4, ⟨⟨[0, 1, 5], []⟩, [(0, ⟨[], []⟩)], ⟨[4], []⟩⟩)]⟩),
(105, ⟨[], [], []⟩),
(106, ⟨[], [], []⟩),
(107, ⟨[], [], []⟩),
(109, ⟨[], [], []⟩),
(110, ⟨[], [], []⟩),
(111, ⟨[], [], [(4, ⟨⟨[0, 3], []⟩, [(0, ⟨[3], []⟩)], ⟨[2], []⟩⟩)]⟩),
(112, ⟨[1], [], [(2, ⟨⟨[0, 1, 5], []⟩, [(0, ⟨[1], []⟩)], ⟨[4], []⟩⟩)]⟩),
(113, ⟨[1], [], [(2, ⟨⟨[0, 1, 5], []⟩, [(0, ⟨[1], []⟩)], ⟨[4], []⟩⟩)]⟩),
(116, ⟨[2], [], [(3, ⟨⟨[0, 3, 5], [(0, 0, .own 99)]⟩, [(0, ⟨[0], []⟩)], ⟨[4], []⟩⟩), (7, ⟨⟨[0, 3, 5, 6, 7], []⟩, [(2, ⟨[0, 3, 5, 6], []⟩)], ⟨[4], []⟩⟩)]⟩),
(117, ⟨[1], [], [(3, ⟨⟨[0, 16, 17, 18], []⟩, [(0, ⟨[], []⟩)], ⟨[], []⟩⟩), (6, ⟨⟨[0, 5, 16, 17, 18, 30, 31, 32], []⟩, [(2, ⟨[0, 5, 16, 17, 18], []⟩)], ⟨[], []⟩⟩), (13, ⟨⟨[0, 16, 17, 18, 50, 51, 52], []⟩, [(4, ⟨[0, 16, 17, 18], []⟩)], ⟨[], []⟩⟩)]⟩),
(118, ⟨[], [], []⟩),
(119, ⟨[], [], []⟩),
(120, ⟨[], [], [(4, ⟨⟨[0, 3], []⟩, [(0, ⟨[], []⟩)], ⟨[2], []⟩⟩)]⟩),
(121, ⟨[], [], []⟩),
(122, ⟨[], [], [(4, ⟨⟨[0, 3], []⟩, [(0, ⟨[], []⟩)], ⟨[2], []⟩⟩)]⟩),
(123, ⟨[], [], []⟩),
(124, ⟨[], [], []⟩),
(152, ⟨[], [], [(5, ⟨⟨[0, 1, 5], []⟩, [(0, ⟨[1], []⟩)], ⟨[4], []⟩⟩)]⟩),
(154, ⟨[], [], [(3, ⟨⟨[0, 3, 4], []⟩, [(0, ⟨[3], []⟩)], ⟨[2], []⟩⟩)]⟩),
(156, ⟨[], [], [(4, ⟨⟨[0, 1, 5], []⟩, [(0, ⟨[], []⟩)], ⟨[4], []⟩⟩)]⟩),
(157, ⟨[1], [], [(3, ⟨⟨[0, 3, 4], [(1000000, 0, .own 99)]⟩, [(0, ⟨[], []⟩)], ⟨[], []⟩⟩)]⟩),
(158, ⟨[], [], [(5, ⟨⟨[0, 1, 5], []⟩, [(0, ⟨[1], []⟩)], ⟨[4], []⟩⟩)]⟩),
(159, ⟨[], [], [(7, ⟨⟨[0, 3, 5, 6, 7, 8], [(6, 0, .own 99)]⟩, [(0, ⟨[5, 6, 7], []⟩)], ⟨[4], []⟩⟩), (16, ⟨⟨[0, 3, 5, 6, 7, 8, 10], []⟩, [(2, ⟨[0, 3, 5, 6, 7, 8], []⟩)], ⟨[4], []⟩⟩), (20, ⟨⟨[5, 6, 7, 11], []⟩, [(4, ⟨[6], []⟩)], ⟨[4], []⟩⟩)]⟩),
(160, ⟨[], [], []⟩),
(161, ⟨[], [], [(3, ⟨⟨[0, 3, 4], []⟩, [(0, ⟨[3], []⟩)], ⟨[2], []⟩⟩)]⟩),
(162, ⟨[], [], [(2, ⟨⟨[0, 1, 7, 8], []⟩, [(0, ⟨[], []⟩)], ⟨[4], []⟩⟩)]⟩),
(163, ⟨[], [], []⟩),
(164, ⟨[], [], [(6, ⟨⟨[0, 3, 6, 7, 8, 29, 30], []⟩, [(0, ⟨[6, 7, 8], []⟩)], ⟨[4, 5], []⟩⟩), (13, ⟨⟨[0, 3, 6, 7, 8, 9, 10, 11, 29, 30, 52, 53, 54], []⟩, [(2, ⟨[0, 3, 6, 7, 8, 9, 10, 11, 29, 30], []⟩)], ⟨[4, 5], []⟩⟩)]⟩),
(173, ⟨[], [], []⟩),
(182, ⟨[], [], []⟩),
(184, ⟨[], [], []⟩),
(186, ⟨[], [], []⟩),
(187, ⟨[], [], []⟩),
(188, ⟨[], [], [(2, ⟨⟨[0, 2, 4, 7], []⟩, [(0, ⟨[0, 4], []⟩)], ⟨[6], []⟩⟩), (1000007, ⟨⟨[0, 4, 63], []⟩, [(1000000, ⟨[0, 4], []⟩)], ⟨[6], []⟩⟩), (1000008, ⟨⟨[0, 4], []⟩, [(1000000, ⟨[6], []⟩)], ⟨[6], []⟩⟩)]⟩),
(189, ⟨[], [], [(3, ⟨⟨[0, 2, 4, 7, 8], []⟩, [(0, ⟨[0, 4, 7], []⟩)], ⟨[6], []⟩⟩)]⟩),
(190, ⟨[], [], []⟩),
(191, ⟨[], [], [(11, ⟨⟨[8, 80, 81, 82], []⟩, [(1, ⟨[8], []⟩)], ⟨[6], []⟩⟩), (1000005, ⟨⟨[0, 1, 2, 7, 17], []⟩, [(1000000, ⟨[], []⟩)], ⟨[6], []⟩⟩), (1000009, ⟨⟨[0, 2, 7, 69], []⟩, [(1000000, ⟨[], []⟩)], ⟨[6], []⟩⟩), (1000021, ⟨⟨[0, 7, 137], []⟩, [(1000000, ⟨[], []⟩)], ⟨[6], []⟩⟩)]⟩),
(192, ⟨[], [], [(1000002, ⟨⟨[0, 3], []⟩, [(1000000, ⟨[2], []⟩)], ⟨[2], []⟩⟩), (1000003, ⟨⟨[0, 52], []⟩, [(1000000, ⟨[0], []⟩)], ⟨[2], []⟩⟩)]⟩),
(193, ⟨[], [], []⟩),
(213, ⟨[], [], []⟩),
(221, ⟨[], [], []⟩),
(222, ⟨[], [], [(4, ⟨⟨[0, 1, 5], []⟩, [(0, ⟨[], []⟩)], ⟨[4], []⟩⟩)]⟩),
(223, ⟨[], [], []⟩),
(224, ⟨[], [], []⟩),
(225, ⟨[], [], []⟩),
(226, ⟨[], [], []⟩),
(227, ⟨[], [], []⟩),
(228, ⟨[], [], [(3, ⟨⟨[0, 3, 4], []⟩, [(0, ⟨[3], []⟩)], ⟨[2], []⟩⟩)]⟩),
(229, ⟨[], [], [(2, ⟨⟨[0, 1, 7, 8], []⟩, [(0, ⟨[], []⟩)], ⟨[4], []⟩⟩)]⟩),
(243, ⟨[], [], [(4, ⟨⟨[0, 1, 5], []⟩, [(0, ⟨[], []⟩)], ⟨[4], []⟩⟩)]⟩),
(244, ⟨[], [], []⟩),
(245, ⟨[], [], [(3, ⟨⟨[0, 3, 4], []⟩, [(0, ⟨[3], []⟩)], ⟨[2], []⟩⟩)]⟩)]
def fiF (f : Nat) : Fi := (look f fis).getD ⟨[], [], []⟩
noncomputable def C : Ctx := { ti := fun t => look t tis, fs := fun f => look f fns, fi := fiF }
def bodyOf (f : Func) : Code := f.body.getD .skip
def loopOf (f : Func) (k : Nat) : Code := (findLoop k (bodyOf f)).getD .skip
def cutOf (f : Func) (k : Nat) : Code := (findCut k (bodyOf f)).getD .skip
def liOf (l : List (Nat × Li)) (k : Nat) : Li := (look k l).getD ⟨⟨[], []⟩, [], ⟨[], []⟩⟩
theorem tis_ok : (tis.all fun x => tiB Try.prog x.1 x.2) = true := by kernel_rfl
theorem fns_all : (fns.all fun x => fnB (fiF x.1) x.2) = true := by kernel_rfl
theorem fnp (f : Nat) (x : Func) (r : List (Nat × Func)) (h : Try.prog.funcs[f]? = some x) (hr : ∀ y ∈ r, Try.prog.funcs[y.1]? = some y.2) : ∀ y ∈ (f, x) :: r, Try.prog.funcs[y.1]? = some y.2 := List.forall_mem_cons.2 ⟨h, hr⟩
set_option maxRecDepth 100000 in
theorem fns_prog : ∀ x ∈ fns, Try.prog.funcs[x.1]? = some x.2 := (fnp _ _ _ Try.func4
(fnp _ _ _ Try.func8
(fnp _ _ _ Try.func10
(fnp _ _ _ Try.func12
(fnp _ _ _ Try.func13
(fnp _ _ _ Try.func14
(fnp _ _ _ Try.func15
(fnp _ _ _ Try.func17
(fnp _ _ _ Try.func18
(fnp _ _ _ Try.func19
(fnp _ _ _ Try.func20
(fnp _ _ _ Try.func21
(fnp _ _ _ Try.func22
(fnp _ _ _ Try.func25
(fnp _ _ _ Try.func28
(fnp _ _ _ Try.func43
(fnp _ _ _ Try.func44
(fnp _ _ _ Try.func46
(fnp _ _ _ Try.func47
(fnp _ _ _ Try.func49
(fnp _ _ _ Try.func50
(fnp _ _ _ Try.func51
(fnp _ _ _ Try.func52
(fnp _ _ _ Try.func53
(fnp _ _ _ Try.func54
(fnp _ _ _ Try.func56
(fnp _ _ _ Try.func57
(fnp _ _ _ Try.func58
(fnp _ _ _ Try.func59
(fnp _ _ _ Try.func60
(fnp _ _ _ Try.func61
(fnp _ _ _ Try.func66
(fnp _ _ _ Try.func67
(fnp _ _ _ Try.func69
(fnp _ _ _ Try.func74
(fnp _ _ _ Try.func87
(fnp _ _ _ Try.func91
(fnp _ _ _ Try.func94
(fnp _ _ _ Try.func101
(fnp _ _ _ Try.func102
(fnp _ _ _ Try.func103
(fnp _ _ _ Try.func105
(fnp _ _ _ Try.func106
(fnp _ _ _ Try.func107
(fnp _ _ _ Try.func109
(fnp _ _ _ Try.func110
(fnp _ _ _ Try.func111
(fnp _ _ _ Try.func112
(fnp _ _ _ Try.func113
(fnp _ _ _ Try.func116
(fnp _ _ _ Try.func117
(fnp _ _ _ Try.func118
(fnp _ _ _ Try.func119
(fnp _ _ _ Try.func120
(fnp _ _ _ Try.func121
(fnp _ _ _ Try.func122
(fnp _ _ _ Try.func123
(fnp _ _ _ Try.func124
(fnp _ _ _ Try.func152
(fnp _ _ _ Try.func154
(fnp _ _ _ Try.func156
(fnp _ _ _ Try.func157
(fnp _ _ _ Try.func158
(fnp _ _ _ Try.func159
(fnp _ _ _ Try.func160
(fnp _ _ _ Try.func161
(fnp _ _ _ Try.func162
(fnp _ _ _ Try.func163
(fnp _ _ _ Try.func164
(fnp _ _ _ Try.func173
(fnp _ _ _ Try.func182
(fnp _ _ _ Try.func184
(fnp _ _ _ Try.func186
(fnp _ _ _ Try.func187
(fnp _ _ _ Try.func188
(fnp _ _ _ Try.func189
(fnp _ _ _ Try.func190
(fnp _ _ _ Try.func191
(fnp _ _ _ Try.func192
(fnp _ _ _ Try.func193
(fnp _ _ _ Try.func213
(fnp _ _ _ Try.func221
(fnp _ _ _ Try.func222
(fnp _ _ _ Try.func223
(fnp _ _ _ Try.func224
(fnp _ _ _ Try.func225
(fnp _ _ _ Try.func226
(fnp _ _ _ Try.func227
(fnp _ _ _ Try.func228
(fnp _ _ _ Try.func229
(fnp _ _ _ Try.func243
(fnp _ _ _ Try.func244
(fnp _ _ _ Try.func245
(fun _ h => by cases h))))))))))))))))))))))))))))))))))))))))))))))))))))))))))))))))))))))))))))))))))))))))))))))
theorem C_ok : CtxOK Try.prog C := ctx_ok tis_ok fns_prog
theorem C_fns : FnsOK Try.prog C := Go.Vsi.fns_ok fns_all
theorem C_follows : Try.prog.follows .mixedOrders = true := by kernel_rfl
def D0 (n : Nat) : CallF := noC
theorem D0_ok {X0 : CallF} (hX : CallF.Mono X0) : ∀ n g a K, D0 n g a K → callM C X0 n g a K := fun n => noC_ok
end Go.Vsi
end

section
set_option linter.unusedVariables false
namespace Go.Vsi
open Go.Proofs
section
variable {X0 : CallF} (hX : CallF.Mono X0)
include hX
abbrev laws_szDecl.a : List TS := [.a [.o .str, .o (.int .i64)], .c (.o (.int .i64))]
def laws_szDecl.u (n : Nat) (v : VA laws_szDecl.a) (K : RES → Prop) : Prop := laws_szDecl.c n v.1.1 v.1.2.1 v.2.1 (fun r0 => K ⟨.c (.int .i64 r0), []⟩)
theorem laws_szDecl_ok : ∀ n v K, laws_szDecl.u n v K → callM C X0 n 61 (fillA laws_szDecl.a v) K :=
 call_tell hX (fn := Try.f61) (c := bodyOf Try.f61) (by kernel_rfl) (by kernel_rfl) (A := laws_szDecl.a) (u := laws_szDecl.u) (fun _ _ h => h) (call := D0) (lp := fun n => noL) (D0_ok hX) (fun n => noL_ok) (fun n v K => by kernel_rfl)
def D1 (n : Nat) : CallF := orC 61 laws_szDecl.a (laws_szDecl.u n) (D0 n)
theorem D1_ok : ∀ n g a K, D1 n g a K → callM C X0 n g a K := fun n => orC_ok (laws_szDecl_ok hX n) (D0_ok hX n)
abbrev laws_szDeclS.a : List TS := [.c (.o (.dat 98 (.prod .str (.int .i64)))), .c (.o (.int .i64))]
def laws_szDeclS.u (n : Nat) (v : VA laws_szDeclS.a) (K : RES → Prop) : Prop := laws_szDeclS.c n v.1 v.2.1 (fun r0 => K ⟨.c (.int .i64 r0), []⟩)
abbrev laws_szDeclS.l5.s : ST := ⟨[(0, .c (.o (.dat 98 (.prod .str (.int .i64))))), (1, .c (.o (.int .i64))), (5, .c (.o (.int .i64)))], [], [], [], []⟩
def laws_szDeclS.l5.u (n : Nat) (v : laws_szDeclS.l5.s.V) (K : X → St → Prop) : Prop := laws_szDeclS.l5 n v.1.1 v.1.2.1 v.1.2.2.1 (fun y0 => K (.exit 0) ⟨[(1, .c (.int .i64 y0))], [], [], [], []⟩) (fun y0 => K .ret ⟨[(4, .c (.int .i64 y0))], [], [], [], []⟩)
theorem laws_szDeclS.l5_ok : ∀ n v K, laws_szDeclS.l5.u n v K → loopM C X0 n 22 5 (laws_szDeclS.l5.s.fill v) K :=
 loop_tell hX (fn := Try.f22) (c := bodyOf Try.f22) (a := loopOf Try.f22 5) (li := liOf (C.fi 22).loops 5) (by kernel_rfl) (by kernel_rfl) (of_decide_eq_true rfl) (by kernel_rfl) (by kernel_rfl) (T := laws_szDeclS.l5.s) (u := laws_szDeclS.l5.u) (fun _ _ h => h) (call := D1) (lp := fun n => noL) (D1_ok hX) (fun n => noL_ok) (fun n v K => by kernel_rfl)
theorem laws_szDeclS_ok : ∀ n v K, laws_szDeclS.u n v K → callM C X0 n 22 (fillA laws_szDeclS.a v) K :=
 call_tell hX (fn := Try.f22) (c := bodyOf Try.f22) (by kernel_rfl) (by kernel_rfl) (A := laws_szDeclS.a) (u := laws_szDeclS.u) (fun _ _ h => h) (call := D1) (lp := fun n => orL 5 laws_szDeclS.l5.s (laws_szDeclS.l5.u n) noL) (D1_ok hX) (fun n => (orL_ok (laws_szDeclS.l5_ok hX n) noL_ok)) (fun n v K => by kernel_rfl)
def D2 (n : Nat) : CallF := orC 22 laws_szDeclS.a (laws_szDeclS.u n) (D1 n)
theorem D2_ok : ∀ n g a K, D2 n g a K → callM C X0 n g a K := fun n => orC_ok (laws_szDeclS_ok hX n) (D1_ok hX n)
abbrev laws_szUint64S.a : List TS := [.c (.o (.dat 182 (.int .u64))), .c (.o (.int .i64))]
def laws_szUint64S.u (n : Nat) (v : VA laws_szUint64S.a) (K : RES → Prop) : Prop := laws_szUint64S.c n v.1 v.2.1 (fun r0 => K ⟨.c (.int .i64 r0), []⟩)
theorem laws_szUint64S_ok : ∀ n v K, laws_szUint64S.u n v K → callM C X0 n 244 (fillA laws_szUint64S.a v) K :=
 call_tell hX (fn := Try.f244) (c := bodyOf Try.f244) (by kernel_rfl) (by kernel_rfl) (A := laws_szUint64S.a) (u := laws_szUint64S.u) (fun _ _ h => h) (call := D2) (lp := fun n => noL) (D2_ok hX) (fun n => noL_ok) (fun n v K => by kernel_rfl)
def D3 (n : Nat) : CallF := orC 244 laws_szUint64S.a (laws_szUint64S.u n) (D2 n)
theorem D3_ok : ∀ n g a K, D3 n g a K → callM C X0 n g a K := fun n => orC_ok (laws_szUint64S_ok hX n) (D2_ok hX n)
abbrev laws_szBits.a : List TS := [.a [.o (.int .i64), .o (.dat 182 (.int .u64))], .c (.o (.int .i64))]
def laws_szBits.u (n : Nat) (v : VA laws_szBits.a) (K : RES → Prop) : Prop := laws_szBits.c n v.1.1 v.1.2.1 v.2.1 (fun r0 => K ⟨.c (.int .i64 r0), []⟩)
theorem laws_szBits_ok : ∀ n v K, laws_szBits.u n v K → callM C X0 n 223 (fillA laws_szBits.a v) K :=
 call_tell hX (fn := Try.f223) (c := bodyOf Try.f223) (by kernel_rfl) (by kernel_rfl) (A := laws_szBits.a) (u := laws_szBits.u) (fun _ _ h => h) (call := D3) (lp := fun n => noL) (D3_ok hX) (fun n => noL_ok) (fun n v K => by kernel_rfl)
def D4 (n : Nat) : CallF := orC 223 laws_szBits.a (laws_szBits.u n) (D3 n)
theorem D4_ok : ∀ n g a K, D4 n g a K → callM C X0 n g a K := fun n => orC_ok (laws_szBits_ok hX n) (D3_ok hX n)
abbrev laws_szInt64S.a : List TS := [.c (.o (.dat 2 (.int .i64))), .c (.o (.int .i64))]
def laws_szInt64S.u (n : Nat) (v : VA laws_szInt64S.a) (K : RES → Prop) : Prop := laws_szInt64S.c n v.1 v.2.1 (fun r0 => K ⟨.c (.int .i64 r0), []⟩)
theorem laws_szInt64S_ok : ∀ n v K, laws_szInt64S.u n v K → callM C X0 n 224 (fillA laws_szInt64S.a v) K :=
 call_tell hX (fn := Try.f224) (c := bodyOf Try.f224) (by kernel_rfl) (by kernel_rfl) (A := laws_szInt64S.a) (u := laws_szInt64S.u) (fun _ _ h => h) (call := D4) (lp := fun n => noL) (D4_ok hX) (fun n => noL_ok) (fun n v K => by kernel_rfl)
def D5 (n : Nat) : CallF := orC 224 laws_szInt64S.a (laws_szInt64S.u n) (D4 n)
theorem D5_ok : ∀ n g a K, D5 n g a K → callM C X0 n g a K := fun n => orC_ok (laws_szInt64S_ok hX n) (D4_ok hX n)
abbrev laws_szTNode.a : List TS := [.a [.o (.int .i64), .o (.int .i64), .o (.int .i64), .o (.int .i64), .o (.int .i64), .o (.dat 182 (.int .u64)), .o (.dat 2 (.int .i64))], .c (.o (.int .i64))]
def laws_szTNode.u (n : Nat) (v : VA laws_szTNode.a) (K : RES → Prop) : Prop := laws_szTNode.c n v.1.1 v.1.2.1 v.1.2.2.1 v.1.2.2.2.1 v.1.2.2.2.2.1 v.1.2.2.2.2.2.1 v.1.2.2.2.2.2.2.1 v.2.1 (fun r0 => K ⟨.c (.int .i64 r0), []⟩)
theorem laws_szTNode_ok : ∀ n v K, laws_szTNode.u n v K → callM C X0 n 187 (fillA laws_szTNode.a v) K :=
 call_tell hX (fn := Try.f187) (c := bodyOf Try.f187) (by kernel_rfl) (by kernel_rfl) (A := laws_szTNode.a) (u := laws_szTNode.u) (fun _ _ h => h) (call := D5) (lp := fun n => noL) (D5_ok hX) (fun n => noL_ok) (fun n v K => by kernel_rfl)
def D6 (n : Nat) : CallF := orC 187 laws_szTNode.a (laws_szTNode.u n) (D5 n)
theorem D6_ok : ∀ n g a K, D6 n g a K → callM C X0 n g a K := fun n => orC_ok (laws_szTNode_ok hX n) (D5_ok hX n)
abbrev laws_szTNodeS.a : List TS := [.c (.o (.dat 222 (.prod (.int .i64) (.prod (.int .i64) (.prod (.int .i64) (.prod (.int .i64) (.prod (.int .i64) (.prod (.sl 182 (.int .u64)) (.sl 2 (.int .i64)))))))))), .c (.o (.int .i64))]
def laws_szTNodeS.u (n : Nat) (v : VA laws_szTNodeS.a) (K : RES → Prop) : Prop := laws_szTNodeS.c n v.1 v.2.1 (fun r0 => K ⟨.c (.int .i64 r0), []⟩)
abbrev laws_szTNodeS.l5.s : ST := ⟨[(0, .c (.o (.dat 222 (.prod (.int .i64) (.prod (.int .i64) (.prod (.int .i64) (.prod (.int .i64) (.prod (.int .i64) (.prod (.sl 182 (.int .u64)) (.sl 2 (.int .i64))))))))))), (1, .c (.o (.int .i64))), (5, .c (.o (.int .i64)))], [], [], [], []⟩
def laws_szTNodeS.l5.u (n : Nat) (v : laws_szTNodeS.l5.s.V) (K : X → St → Prop) : Prop := laws_szTNodeS.l5 n v.1.1 v.1.2.1 v.1.2.2.1 (fun y0 => K (.exit 0) ⟨[(1, .c (.int .i64 y0))], [], [], [], []⟩) (fun y0 => K .ret ⟨[(4, .c (.int .i64 y0))], [], [], [], []⟩)
theorem laws_szTNodeS.l5_ok : ∀ n v K, laws_szTNodeS.l5.u n v K → loopM C X0 n 158 5 (laws_szTNodeS.l5.s.fill v) K :=
 loop_tell hX (fn := Try.f158) (c := bodyOf Try.f158) (a := loopOf Try.f158 5) (li := liOf (C.fi 158).loops 5) (by kernel_rfl) (by kernel_rfl) (of_decide_eq_true rfl) (by kernel_rfl) (by kernel_rfl) (T := laws_szTNodeS.l5.s) (u := laws_szTNodeS.l5.u) (fun _ _ h => h) (call := D6) (lp := fun n => noL) (D6_ok hX) (fun n => noL_ok) (fun n v K => by kernel_rfl)
theorem laws_szTNodeS_ok : ∀ n v K, laws_szTNodeS.u n v K → callM C X0 n 158 (fillA laws_szTNodeS.a v) K :=
 call_tell hX (fn := Try.f158) (c := bodyOf Try.f158) (by kernel_rfl) (by kernel_rfl) (A := laws_szTNodeS.a) (u := laws_szTNodeS.u) (fun _ _ h => h) (call := D6) (lp := fun n => orL 5 laws_szTNodeS.l5.s (laws_szTNodeS.l5.u n) noL) (D6_ok hX) (fun n => (orL_ok (laws_szTNodeS.l5_ok hX n) noL_ok)) (fun n v K => by kernel_rfl)
def D7 (n : Nat) : CallF := orC 158 laws_szTNodeS.a (laws_szTNodeS.u n) (D6 n)
theorem D7_ok : ∀ n g a K, D7 n g a K → callM C X0 n g a K := fun n => orC_ok (laws_szTNodeS_ok hX n) (D6_ok hX n)
abbrev laws_szTerm.a : List TS := [.a [.o (.dat 222 (.prod (.int .i64) (.prod (.int .i64) (.prod (.int .i64) (.prod (.int .i64) (.prod (.int .i64) (.prod (.sl 182 (.int .u64)) (.sl 2 (.int .i64)))))))))], .c (.o (.int .i64))]
def laws_szTerm.u (n : Nat) (v : VA laws_szTerm.a) (K : RES → Prop) : Prop := laws_szTerm.c n v.1.1 v.2.1 (fun r0 => K ⟨.c (.int .i64 r0), []⟩)
theorem laws_szTerm_ok : ∀ n v K, laws_szTerm.u n v K → callM C X0 n 118 (fillA laws_szTerm.a v) K :=
 call_tell hX (fn := Try.f118) (c := bodyOf Try.f118) (by kernel_rfl) (by kernel_rfl) (A := laws_szTerm.a) (u := laws_szTerm.u) (fun _ _ h => h) (call := D7) (lp := fun n => noL) (D7_ok hX) (fun n => noL_ok) (fun n v K => by kernel_rfl)
def D8 (n : Nat) : CallF := orC 118 laws_szTerm.a (laws_szTerm.u n) (D7 n)
theorem D8_ok : ∀ n g a K, D8 n g a K → callM C X0 n g a K := fun n => orC_ok (laws_szTerm_ok hX n) (D7_ok hX n)
abbrev laws_szLiteral.a : List TS := [.a [.o (.int .i64), .o .bool, .o (.dat 222 (.prod (.int .i64) (.prod (.int .i64) (.prod (.int .i64) (.prod (.int .i64) (.prod (.int .i64) (.prod (.sl 182 (.int .u64)) (.sl 2 (.int .i64))))))))), .o (.dat 222 (.prod (.int .i64) (.prod (.int .i64) (.prod (.int .i64) (.prod (.int .i64) (.prod (.int .i64) (.prod (.sl 182 (.int .u64)) (.sl 2 (.int .i64)))))))))], .c (.o (.int .i64))]
def laws_szLiteral.u (n : Nat) (v : VA laws_szLiteral.a) (K : RES → Prop) : Prop := laws_szLiteral.c n v.1.1 v.1.2.1 v.1.2.2.1 v.1.2.2.2.1 v.2.1 (fun r0 => K ⟨.c (.int .i64 r0), []⟩)
theorem laws_szLiteral_ok : ∀ n v K, laws_szLiteral.u n v K → callM C X0 n 182 (fillA laws_szLiteral.a v) K :=
 call_tell hX (fn := Try.f182) (c := bodyOf Try.f182) (by kernel_rfl) (by kernel_rfl) (A := laws_szLiteral.a) (u := laws_szLiteral.u) (fun _ _ h => h) (call := D8) (lp := fun n => noL) (D8_ok hX) (fun n => noL_ok) (fun n v K => by kernel_rfl)
def D9 (n : Nat) : CallF := orC 182 laws_szLiteral.a (laws_szLiteral.u n) (D8 n)
theorem D9_ok : ∀ n g a K, D9 n g a K → callM C X0 n g a K := fun n => orC_ok (laws_szLiteral_ok hX n) (D8_ok hX n)
abbrev laws_szLiteralS.a : List TS := [.c (.o (.dat 216 (.prod (.int .i64) (.prod .bool (.prod (.sl 222 (.prod (.int .i64) (.prod (.int .i64) (.prod (.int .i64) (.prod (.int .i64) (.prod (.int .i64) (.prod (.sl 182 (.int .u64)) (.sl 2 (.int .i64))))))))) (.sl 222 (.prod (.int .i64) (.prod (.int .i64) (.prod (.int .i64) (.prod (.int .i64) (.prod (.int .i64) (.prod (.sl 182 (.int .u64)) (.sl 2 (.int .i64)))))))))))))), .c (.o (.int .i64))]
def laws_szLiteralS.u (n : Nat) (v : VA laws_szLiteralS.a) (K : RES → Prop) : Prop := laws_szLiteralS.c n v.1 v.2.1 (fun r0 => K ⟨.c (.int .i64 r0), []⟩)
abbrev laws_szLiteralS.l5.s : ST := ⟨[(0, .c (.o (.dat 216 (.prod (.int .i64) (.prod .bool (.prod (.sl 222 (.prod (.int .i64) (.prod (.int .i64) (.prod (.int .i64) (.prod (.int .i64) (.prod (.int .i64) (.prod (.sl 182 (.int .u64)) (.sl 2 (.int .i64))))))))) (.sl 222 (.prod (.int .i64) (.prod (.int .i64) (.prod (.int .i64) (.prod (.int .i64) (.prod (.int .i64) (.prod (.sl 182 (.int .u64)) (.sl 2 (.int .i64))))))))))))))), (1, .c (.o (.int .i64))), (5, .c (.o (.int .i64)))], [], [], [], []⟩
def laws_szLiteralS.l5.u (n : Nat) (v : laws_szLiteralS.l5.s.V) (K : X → St → Prop) : Prop := laws_szLiteralS.l5 n v.1.1 v.1.2.1 v.1.2.2.1 (fun y0 => K (.exit 0) ⟨[(1, .c (.int .i64 y0))], [], [], [], []⟩) (fun y0 => K .ret ⟨[(4, .c (.int .i64 y0))], [], [], [], []⟩)
theorem laws_szLiteralS.l5_ok : ∀ n v K, laws_szLiteralS.l5.u n v K → loopM C X0 n 152 5 (laws_szLiteralS.l5.s.fill v) K :=
 loop_tell hX (fn := Try.f152) (c := bodyOf Try.f152) (a := loopOf Try.f152 5) (li := liOf (C.fi 152).loops 5) (by kernel_rfl) (by kernel_rfl) (of_decide_eq_true rfl) (by kernel_rfl) (by kernel_rfl) (T := laws_szLiteralS.l5.s) (u := laws_szLiteralS.l5.u) (fun _ _ h => h) (call := D9) (lp := fun n => noL) (D9_ok hX) (fun n => noL_ok) (fun n v K => by kernel_rfl)
theorem laws_szLiteralS_ok : ∀ n v K, laws_szLiteralS.u n v K → callM C X0 n 152 (fillA laws_szLiteralS.a v) K :=
 call_tell hX (fn := Try.f152) (c := bodyOf Try.f152) (by kernel_rfl) (by kernel_rfl) (A := laws_szLiteralS.a) (u := laws_szLiteralS.u) (fun _ _ h => h) (call := D9) (lp := fun n => orL 5 laws_szLiteralS.l5.s (laws_szLiteralS.l5.u n) noL) (D9_ok hX) (fun n => (orL_ok (laws_szLiteralS.l5_ok hX n) noL_ok)) (fun n v K => by kernel_rfl)
def D10 (n : Nat) : CallF := orC 152 laws_szLiteralS.a (laws_szLiteralS.u n) (D9 n)
theorem D10_ok : ∀ n g a K, D10 n g a K → callM C X0 n g a K := fun n => orC_ok (laws_szLiteralS_ok hX n) (D9_ok hX n)
abbrev laws_szScope.a : List TS := [.a [.o (.int .i64), .o (.dat 216 (.prod (.int .i64) (.prod .bool (.prod (.sl 222 (.prod (.int .i64) (.prod (.int .i64) (.prod (.int .i64) (.prod (.int .i64) (.prod (.int .i64) (.prod (.sl 182 (.int .u64)) (.sl 2 (.int .i64))))))))) (.sl 222 (.prod (.int .i64) (.prod (.int .i64) (.prod (.int .i64) (.prod (.int .i64) (.prod (.int .i64) (.prod (.sl 182 (.int .u64)) (.sl 2 (.int .i64)))))))))))))], .c (.o (.int .i64))]
def laws_szScope.u (n : Nat) (v : VA laws_szScope.a) (K : RES → Prop) : Prop := laws_szScope.c n v.1.1 v.1.2.1 v.2.1 (fun r0 => K ⟨.c (.int .i64 r0), []⟩)
theorem laws_szScope_ok : ∀ n v K, laws_szScope.u n v K → callM C X0 n 101 (fillA laws_szScope.a v) K :=
 call_tell hX (fn := Try.f101) (c := bodyOf Try.f101) (by kernel_rfl) (by kernel_rfl) (A := laws_szScope.a) (u := laws_szScope.u) (fun _ _ h => h) (call := D10) (lp := fun n => noL) (D10_ok hX) (fun n => noL_ok) (fun n v K => by kernel_rfl)
def D11 (n : Nat) : CallF := orC 101 laws_szScope.a (laws_szScope.u n) (D10 n)
theorem D11_ok : ∀ n g a K, D11 n g a K → callM C X0 n g a K := fun n => orC_ok (laws_szScope_ok hX n) (D10_ok hX n)
abbrev laws_szScopeS.a : List TS := [.c (.o (.dat 145 (.prod (.int .i64) (.sl 216 (.prod (.int .i64) (.prod .bool (.prod (.sl 222 (.prod (.int .i64) (.prod (.int .i64) (.prod (.int .i64) (.prod (.int .i64) (.prod (.int .i64) (.prod (.sl 182 (.int .u64)) (.sl 2 (.int .i64))))))))) (.sl 222 (.prod (.int .i64) (.prod (.int .i64) (.prod (.int .i64) (.prod (.int .i64) (.prod (.int .i64) (.prod (.sl 182 (.int .u64)) (.sl 2 (.int .i64)))))))))))))))), .c (.o (.int .i64))]
def laws_szScopeS.u (n : Nat) (v : VA laws_szScopeS.a) (K : RES → Prop) : Prop := laws_szScopeS.c n v.1 v.2.1 (fun r0 => K ⟨.c (.int .i64 r0), []⟩)
abbrev laws_szScopeS.l5.s : ST := ⟨[(0, .c (.o (.dat 145 (.prod (.int .i64) (.sl 216 (.prod (.int .i64) (.prod .bool (.prod (.sl 222 (.prod (.int .i64) (.prod (.int .i64) (.prod (.int .i64) (.prod (.int .i64) (.prod (.int .i64) (.prod (.sl 182 (.int .u64)) (.sl 2 (.int .i64))))))))) (.sl 222 (.prod (.int .i64) (.prod (.int .i64) (.prod (.int .i64) (.prod (.int .i64) (.prod (.int .i64) (.prod (.sl 182 (.int .u64)) (.sl 2 (.int .i64))))))))))))))))), (1, .c (.o (.int .i64))), (5, .c (.o (.int .i64)))], [], [], [], []⟩
def laws_szScopeS.l5.u (n : Nat) (v : laws_szScopeS.l5.s.V) (K : X → St → Prop) : Prop := laws_szScopeS.l5 n v.1.1 v.1.2.1 v.1.2.2.1 (fun y0 => K (.exit 0) ⟨[(1, .c (.int .i64 y0))], [], [], [], []⟩) (fun y0 => K .ret ⟨[(4, .c (.int .i64 y0))], [], [], [], []⟩)
theorem laws_szScopeS.l5_ok : ∀ n v K, laws_szScopeS.l5.u n v K → loopM C X0 n 43 5 (laws_szScopeS.l5.s.fill v) K :=
 loop_tell hX (fn := Try.f43) (c := bodyOf Try.f43) (a := loopOf Try.f43 5) (li := liOf (C.fi 43).loops 5) (by kernel_rfl) (by kernel_rfl) (of_decide_eq_true rfl) (by kernel_rfl) (by kernel_rfl) (T := laws_szScopeS.l5.s) (u := laws_szScopeS.l5.u) (fun _ _ h => h) (call := D11) (lp := fun n => noL) (D11_ok hX) (fun n => noL_ok) (fun n v K => by kernel_rfl)
theorem laws_szScopeS_ok : ∀ n v K, laws_szScopeS.u n v K → callM C X0 n 43 (fillA laws_szScopeS.a v) K :=
 call_tell hX (fn := Try.f43) (c := bodyOf Try.f43) (by kernel_rfl) (by kernel_rfl) (A := laws_szScopeS.a) (u := laws_szScopeS.u) (fun _ _ h => h) (call := D11) (lp := fun n => orL 5 laws_szScopeS.l5.s (laws_szScopeS.l5.u n) noL) (D11_ok hX) (fun n => (orL_ok (laws_szScopeS.l5_ok hX n) noL_ok)) (fun n v K => by kernel_rfl)
def D12 (n : Nat) : CallF := orC 43 laws_szScopeS.a (laws_szScopeS.u n) (D11 n)
theorem D12_ok : ∀ n g a K, D12 n g a K → callM C X0 n g a K := fun n => orC_ok (laws_szScopeS_ok hX n) (D11_ok hX n)
abbrev laws_szSession.a : List TS := [.a [.o (.dat 98 (.prod .str (.int .i64))), .o (.dat 145 (.prod (.int .i64) (.sl 216 (.prod (.int .i64) (.prod .bool (.prod (.sl 222 (.prod (.int .i64) (.prod (.int .i64) (.prod (.int .i64) (.prod (.int .i64) (.prod (.int .i64) (.prod (.sl 182 (.int .u64)) (.sl 2 (.int .i64))))))))) (.sl 222 (.prod (.int .i64) (.prod (.int .i64) (.prod (.int .i64) (.prod (.int .i64) (.prod (.int .i64) (.prod (.sl 182 (.int .u64)) (.sl 2 (.int .i64))))))))))))))), .o (.int .i64)], .c (.o (.int .i64))]
def laws_szSession.u (n : Nat) (v : VA laws_szSession.a) (K : RES → Prop) : Prop := laws_szSession.c n v.1.1 v.1.2.1 v.1.2.2.1 v.2.1 (fun r0 => K ⟨.c (.int .i64 r0), []⟩)
theorem laws_szSession_ok : ∀ n v K, laws_szSession.u n v K → callM C X0 n 8 (fillA laws_szSession.a v) K :=
 call_tell hX (fn := Try.f8) (c := bodyOf Try.f8) (by kernel_rfl) (by kernel_rfl) (A := laws_szSession.a) (u := laws_szSession.u) (fun _ _ h => h) (call := D12) (lp := fun n => noL) (D12_ok hX) (fun n => noL_ok) (fun n v K => by kernel_rfl)
def D13 (n : Nat) : CallF := orC 8 laws_szSession.a (laws_szSession.u n) (D12 n)
theorem D13_ok : ∀ n g a K, D13 n g a K → callM C X0 n g a K := fun n => orC_ok (laws_szSession_ok hX n) (D12_ok hX n)
abbrev laws_toDecl.a : List TS := [.a [.o .str, .o (.int .i64)]]
def laws_toDecl.u (n : Nat) (v : VA laws_toDecl.a) (K : RES → Prop) : Prop := laws_toDecl.c n v.1.1 v.1.2.1 (fun r0 r1 => K ⟨.agg [.str r0, .int .i64 r1], []⟩)
theorem laws_toDecl_ok : ∀ n v K, laws_toDecl.u n v K → callM C X0 n 67 (fillA laws_toDecl.a v) K :=
 call_tell hX (fn := Try.f67) (c := bodyOf Try.f67) (by kernel_rfl) (by kernel_rfl) (A := laws_toDecl.a) (u := laws_toDecl.u) (fun _ _ h => h) (call := D13) (lp := fun n => noL) (D13_ok hX) (fun n => noL_ok) (fun n v K => by kernel_rfl)
def D14 (n : Nat) : CallF := orC 67 laws_toDecl.a (laws_toDecl.u n) (D13 n)
theorem D14_ok : ∀ n g a K, D14 n g a K → callM C X0 n g a K := fun n => orC_ok (laws_toDecl_ok hX n) (D13_ok hX n)
abbrev laws_toDeclS.a : List TS := [.c (.o (.dat 98 (.prod .str (.int .i64))))]
def laws_toDeclS.u (n : Nat) (v : VA laws_toDeclS.a) (K : RES → Prop) : Prop := laws_toDeclS.c n v.1 (fun r0 => K ⟨.c (.row ⟨89, .prod .str (.int .i64), r0, 99, none⟩), []⟩)
abbrev laws_toDeclS.l3.s : ST := ⟨[(0, .c (.o (.dat 98 (.prod .str (.int .i64))))), (3, .c (.o (.own 224))), (4, .c (.o (.int .i64)))], [⟨224, 89, .prod .str (.int .i64), 99⟩], [], [], []⟩
def laws_toDeclS.l3.u (n : Nat) (v : laws_toDeclS.l3.s.V) (K : X → St → Prop) : Prop := laws_toDeclS.l3 n v.1.1 v.1.2.2.1 v.2.1.1 (fun y0 => K (.exit 0) ⟨[(3, .c (.own 224))], [(224, ⟨89, .prod .str (.int .i64), y0, 99, none⟩)], [], [], []⟩)
theorem laws_toDeclS.l3_ok : ∀ n v K, laws_toDeclS.l3.u n v K → loopM C X0 n 25 3 (laws_toDeclS.l3.s.fill v) K :=
 loop_tell hX (fn := Try.f25) (c := bodyOf Try.f25) (a := loopOf Try.f25 3) (li := liOf (C.fi 25).loops 3) (by kernel_rfl) (by kernel_rfl) (of_decide_eq_true rfl) (by kernel_rfl) (by kernel_rfl) (T := laws_toDeclS.l3.s) (u := laws_toDeclS.l3.u) (fun _ _ h => h) (call := D14) (lp := fun n => noL) (D14_ok hX) (fun n => noL_ok) (fun n v K => by kernel_rfl)
theorem laws_toDeclS_ok : ∀ n v K, laws_toDeclS.u n v K → callM C X0 n 25 (fillA laws_toDeclS.a v) K :=
 call_tell hX (fn := Try.f25) (c := bodyOf Try.f25) (by kernel_rfl) (by kernel_rfl) (A := laws_toDeclS.a) (u := laws_toDeclS.u) (fun _ _ h => h) (call := D14) (lp := fun n => orL 3 laws_toDeclS.l3.s (laws_toDeclS.l3.u n) noL) (D14_ok hX) (fun n => (orL_ok (laws_toDeclS.l3_ok hX n) noL_ok)) (fun n v K => by kernel_rfl)
def D15 (n : Nat) : CallF := orC 25 laws_toDeclS.a (laws_toDeclS.u n) (D14 n)
theorem D15_ok : ∀ n g a K, D15 n g a K → callM C X0 n g a K := fun n => orC_ok (laws_toDeclS_ok hX n) (D14_ok hX n)
abbrev laws_toUint64S.a : List TS := [.c (.o (.dat 182 (.int .u64)))]
def laws_toUint64S.u (n : Nat) (v : VA laws_toUint64S.a) (K : RES → Prop) : Prop := laws_toUint64S.c n v.1 (fun r0 => K ⟨.c (.row ⟨182, .int .u64, r0, 99, none⟩), []⟩)
abbrev laws_toUint64S.l3.s : ST := ⟨[(0, .c (.o (.dat 182 (.int .u64)))), (3, .c (.o (.own 224))), (4, .c (.o (.int .i64)))], [⟨224, 182, .int .u64, 99⟩], [], [], []⟩
def laws_toUint64S.l3.u (n : Nat) (v : laws_toUint64S.l3.s.V) (K : X → St → Prop) : Prop := laws_toUint64S.l3 n v.1.1 v.1.2.2.1 v.2.1.1 (fun y0 => K (.exit 0) ⟨[(3, .c (.own 224))], [(224, ⟨182, .int .u64, y0, 99, none⟩)], [], [], []⟩)
theorem laws_toUint64S.l3_ok : ∀ n v K, laws_toUint64S.l3.u n v K → loopM C X0 n 245 3 (laws_toUint64S.l3.s.fill v) K :=
 loop_tell hX (fn := Try.f245) (c := bodyOf Try.f245) (a := loopOf Try.f245 3) (li := liOf (C.fi 245).loops 3) (by kernel_rfl) (by kernel_rfl) (of_decide_eq_true rfl) (by kernel_rfl) (by kernel_rfl) (T := laws_toUint64S.l3.s) (u := laws_toUint64S.l3.u) (fun _ _ h => h) (call := D15) (lp := fun n => noL) (D15_ok hX) (fun n => noL_ok) (fun n v K => by kernel_rfl)
theorem laws_toUint64S_ok : ∀ n v K, laws_toUint64S.u n v K → callM C X0 n 245 (fillA laws_toUint64S.a v) K :=
 call_tell hX (fn := Try.f245) (c := bodyOf Try.f245) (by kernel_rfl) (by kernel_rfl) (A := laws_toUint64S.a) (u := laws_toUint64S.u) (fun _ _ h => h) (call := D15) (lp := fun n => orL 3 laws_toUint64S.l3.s (laws_toUint64S.l3.u n) noL) (D15_ok hX) (fun n => (orL_ok (laws_toUint64S.l3_ok hX n) noL_ok)) (fun n v K => by kernel_rfl)
def D16 (n : Nat) : CallF := orC 245 laws_toUint64S.a (laws_toUint64S.u n) (D15 n)
theorem D16_ok : ∀ n g a K, D16 n g a K → callM C X0 n g a K := fun n => orC_ok (laws_toUint64S_ok hX n) (D15_ok hX n)
abbrev laws_toBits.a : List TS := [.a [.o (.int .i64), .o (.dat 182 (.int .u64))]]
def laws_toBits.u (n : Nat) (v : VA laws_toBits.a) (K : RES → Prop) : Prop := laws_toBits.c n v.1.1 v.1.2.1 (fun r0 r1 => K ⟨.agg [.int .i64 r0, .row ⟨182, .int .u64, r1, 99, none⟩], []⟩)
theorem laws_toBits_ok : ∀ n v K, laws_toBits.u n v K → callM C X0 n 227 (fillA laws_toBits.a v) K :=
 call_tell hX (fn := Try.f227) (c := bodyOf Try.f227) (by kernel_rfl) (by kernel_rfl) (A := laws_toBits.a) (u := laws_toBits.u) (fun _ _ h => h) (call := D16) (lp := fun n => noL) (D16_ok hX) (fun n => noL_ok) (fun n v K => by kernel_rfl)
def D17 (n : Nat) : CallF := orC 227 laws_toBits.a (laws_toBits.u n) (D16 n)
theorem D17_ok : ∀ n g a K, D17 n g a K → callM C X0 n g a K := fun n => orC_ok (laws_toBits_ok hX n) (D16_ok hX n)
abbrev laws_toInt64S.a : List TS := [.c (.o (.dat 2 (.int .i64)))]
def laws_toInt64S.u (n : Nat) (v : VA laws_toInt64S.a) (K : RES → Prop) : Prop := laws_toInt64S.c n v.1 (fun r0 => K ⟨.c (.row ⟨2, .int .i64, r0, 99, none⟩), []⟩)
abbrev laws_toInt64S.l3.s : ST := ⟨[(0, .c (.o (.dat 2 (.int .i64)))), (3, .c (.o (.own 224))), (4, .c (.o (.int .i64)))], [⟨224, 2, .int .i64, 99⟩], [], [], []⟩
def laws_toInt64S.l3.u (n : Nat) (v : laws_toInt64S.l3.s.V) (K : X → St → Prop) : Prop := laws_toInt64S.l3 n v.1.1 v.1.2.2.1 v.2.1.1 (fun y0 => K (.exit 0) ⟨[(3, .c (.own 224))], [(224, ⟨2, .int .i64, y0, 99, none⟩)], [], [], []⟩)
theorem laws_toInt64S.l3_ok : ∀ n v K, laws_toInt64S.l3.u n v K → loopM C X0 n 228 3 (laws_toInt64S.l3.s.fill v) K :=
 loop_tell hX (fn := Try.f228) (c := bodyOf Try.f228) (a := loopOf Try.f228 3) (li := liOf (C.fi 228).loops 3) (by kernel_rfl) (by kernel_rfl) (of_decide_eq_true rfl) (by kernel_rfl) (by kernel_rfl) (T := laws_toInt64S.l3.s) (u := laws_toInt64S.l3.u) (fun _ _ h => h) (call := D17) (lp := fun n => noL) (D17_ok hX) (fun n => noL_ok) (fun n v K => by kernel_rfl)
theorem laws_toInt64S_ok : ∀ n v K, laws_toInt64S.u n v K → callM C X0 n 228 (fillA laws_toInt64S.a v) K :=
 call_tell hX (fn := Try.f228) (c := bodyOf Try.f228) (by kernel_rfl) (by kernel_rfl) (A := laws_toInt64S.a) (u := laws_toInt64S.u) (fun _ _ h => h) (call := D17) (lp := fun n => orL 3 laws_toInt64S.l3.s (laws_toInt64S.l3.u n) noL) (D17_ok hX) (fun n => (orL_ok (laws_toInt64S.l3_ok hX n) noL_ok)) (fun n v K => by kernel_rfl)
def D18 (n : Nat) : CallF := orC 228 laws_toInt64S.a (laws_toInt64S.u n) (D17 n)
theorem D18_ok : ∀ n g a K, D18 n g a K → callM C X0 n g a K := fun n => orC_ok (laws_toInt64S_ok hX n) (D17_ok hX n)
abbrev laws_toTNode.a : List TS := [.a [.o (.int .i64), .o (.int .i64), .o (.int .i64), .o (.int .i64), .o (.int .i64), .o (.dat 182 (.int .u64)), .o (.dat 2 (.int .i64))]]
def laws_toTNode.u (n : Nat) (v : VA laws_toTNode.a) (K : RES → Prop) : Prop := laws_toTNode.c n v.1.1 v.1.2.1 v.1.2.2.1 v.1.2.2.2.1 v.1.2.2.2.2.1 v.1.2.2.2.2.2.1 v.1.2.2.2.2.2.2.1 (fun r0 r1 r2 r3 r4 r5 r6 => K ⟨.agg [.int .i64 r0, .int .i64 r1, .int .i64 r2, .int .i64 r3, .int .i64 r4, .row ⟨182, .int .u64, r5, 99, none⟩, .row ⟨2, .int .i64, r6, 99, none⟩], []⟩)
theorem laws_toTNode_ok : ∀ n v K, laws_toTNode.u n v K → callM C X0 n 190 (fillA laws_toTNode.a v) K :=
 call_tell hX (fn := Try.f190) (c := bodyOf Try.f190) (by kernel_rfl) (by kernel_rfl) (A := laws_toTNode.a) (u := laws_toTNode.u) (fun _ _ h => h) (call := D18) (lp := fun n => noL) (D18_ok hX) (fun n => noL_ok) (fun n v K => by kernel_rfl)
def D19 (n : Nat) : CallF := orC 190 laws_toTNode.a (laws_toTNode.u n) (D18 n)
theorem D19_ok : ∀ n g a K, D19 n g a K → callM C X0 n g a K := fun n => orC_ok (laws_toTNode_ok hX n) (D18_ok hX n)
abbrev laws_toTNodeS.a : List TS := [.c (.o (.dat 222 (.prod (.int .i64) (.prod (.int .i64) (.prod (.int .i64) (.prod (.int .i64) (.prod (.int .i64) (.prod (.sl 182 (.int .u64)) (.sl 2 (.int .i64))))))))))]
def laws_toTNodeS.u (n : Nat) (v : VA laws_toTNodeS.a) (K : RES → Prop) : Prop := laws_toTNodeS.c n v.1 (fun r0 => K ⟨.c (.row ⟨155, .prod (.int .i64) (.prod (.int .i64) (.prod (.int .i64) (.prod (.int .i64) (.prod (.int .i64) (.prod (.sl 182 (.int .u64)) (.sl 2 (.int .i64))))))), r0, 99, none⟩), []⟩)
abbrev laws_toTNodeS.l3.s : ST := ⟨[(0, .c (.o (.dat 222 (.prod (.int .i64) (.prod (.int .i64) (.prod (.int .i64) (.prod (.int .i64) (.prod (.int .i64) (.prod (.sl 182 (.int .u64)) (.sl 2 (.int .i64))))))))))), (3, .c (.o (.own 224))), (4, .c (.o (.int .i64)))], [⟨224, 155, .prod (.int .i64) (.prod (.int .i64) (.prod (.int .i64) (.prod (.int .i64) (.prod (.int .i64) (.prod (.sl 182 (.int .u64)) (.sl 2 (.int .i64))))))), 99⟩], [], [], []⟩
def laws_toTNodeS.l3.u (n : Nat) (v : laws_toTNodeS.l3.s.V) (K : X → St → Prop) : Prop := laws_toTNodeS.l3 n v.1.1 v.1.2.2.1 v.2.1.1 (fun y0 => K (.exit 0) ⟨[(3, .c (.own 224))], [(224, ⟨155, .prod (.int .i64) (.prod (.int .i64) (.prod (.int .i64) (.prod (.int .i64) (.prod (.int .i64) (.prod (.sl 182 (.int .u64)) (.sl 2 (.int .i64))))))), y0, 99, none⟩)], [], [], []⟩)
theorem laws_toTNodeS.l3_ok : ∀ n v K, laws_toTNodeS.l3.u n v K → loopM C X0 n 161 3 (laws_toTNodeS.l3.s.fill v) K :=
 loop_tell hX (fn := Try.f161) (c := bodyOf Try.f161) (a := loopOf Try.f161 3) (li := liOf (C.fi 161).loops 3) (by kernel_rfl) (by kernel_rfl) (of_decide_eq_true rfl) (by kernel_rfl) (by kernel_rfl) (T := laws_toTNodeS.l3.s) (u := laws_toTNodeS.l3.u) (fun _ _ h => h) (call := D19) (lp := fun n => noL) (D19_ok hX) (fun n => noL_ok) (fun n v K => by kernel_rfl)
theorem laws_toTNodeS_ok : ∀ n v K, laws_toTNodeS.u n v K → callM C X0 n 161 (fillA laws_toTNodeS.a v) K :=
 call_tell hX (fn := Try.f161) (c := bodyOf Try.f161) (by kernel_rfl) (by kernel_rfl) (A := laws_toTNodeS.a) (u := laws_toTNodeS.u) (fun _ _ h => h) (call := D19) (lp := fun n => orL 3 laws_toTNodeS.l3.s (laws_toTNodeS.l3.u n) noL) (D19_ok hX) (fun n => (orL_ok (laws_toTNodeS.l3_ok hX n) noL_ok)) (fun n v K => by kernel_rfl)
def D20 (n : Nat) : CallF := orC 161 laws_toTNodeS.a (laws_toTNodeS.u n) (D19 n)
theorem D20_ok : ∀ n g a K, D20 n g a K → callM C X0 n g a K := fun n => orC_ok (laws_toTNodeS_ok hX n) (D19_ok hX n)
abbrev laws_toTerm.a : List TS := [.a [.o (.dat 222 (.prod (.int .i64) (.prod (.int .i64) (.prod (.int .i64) (.prod (.int .i64) (.prod (.int .i64) (.prod (.sl 182 (.int .u64)) (.sl 2 (.int .i64)))))))))]]
def laws_toTerm.u (n : Nat) (v : VA laws_toTerm.a) (K : RES → Prop) : Prop := laws_toTerm.c n v.1.1 (fun r0 => K ⟨.agg [.row ⟨155, .prod (.int .i64) (.prod (.int .i64) (.prod (.int .i64) (.prod (.int .i64) (.prod (.int .i64) (.prod (.sl 182 (.int .u64)) (.sl 2 (.int .i64))))))), r0, 99, none⟩], []⟩)
theorem laws_toTerm_ok : ∀ n v K, laws_toTerm.u n v K → callM C X0 n 121 (fillA laws_toTerm.a v) K :=
 call_tell hX (fn := Try.f121) (c := bodyOf Try.f121) (by kernel_rfl) (by kernel_rfl) (A := laws_toTerm.a) (u := laws_toTerm.u) (fun _ _ h => h) (call := D20) (lp := fun n => noL) (D20_ok hX) (fun n => noL_ok) (fun n v K => by kernel_rfl)
def D21 (n : Nat) : CallF := orC 121 laws_toTerm.a (laws_toTerm.u n) (D20 n)
theorem D21_ok : ∀ n g a K, D21 n g a K → callM C X0 n g a K := fun n => orC_ok (laws_toTerm_ok hX n) (D20_ok hX n)
abbrev laws_toLiteral.a : List TS := [.a [.o (.int .i64), .o .bool, .o (.dat 222 (.prod (.int .i64) (.prod (.int .i64) (.prod (.int .i64) (.prod (.int .i64) (.prod (.int .i64) (.prod (.sl 182 (.int .u64)) (.sl 2 (.int .i64))))))))), .o (.dat 222 (.prod (.int .i64) (.prod (.int .i64) (.prod (.int .i64) (.prod (.int .i64) (.prod (.int .i64) (.prod (.sl 182 (.int .u64)) (.sl 2 (.int .i64)))))))))]]
def laws_toLiteral.u (n : Nat) (v : VA laws_toLiteral.a) (K : RES → Prop) : Prop := laws_toLiteral.c n v.1.1 v.1.2.1 v.1.2.2.1 v.1.2.2.2.1 (fun r0 r1 r2 r3 => K ⟨.agg [.int .i64 r0, .bool r1, .row ⟨155, .prod (.int .i64) (.prod (.int .i64) (.prod (.int .i64) (.prod (.int .i64) (.prod (.int .i64) (.prod (.sl 182 (.int .u64)) (.sl 2 (.int .i64))))))), r2, 99, none⟩, .row ⟨155, .prod (.int .i64) (.prod (.int .i64) (.prod (.int .i64) (.prod (.int .i64) (.prod (.int .i64) (.prod (.sl 182 (.int .u64)) (.sl 2 (.int .i64))))))), r3, 99, none⟩], []⟩)
theorem laws_toLiteral_ok : ∀ n v K, laws_toLiteral.u n v K → callM C X0 n 184 (fillA laws_toLiteral.a v) K :=
 call_tell hX (fn := Try.f184) (c := bodyOf Try.f184) (by kernel_rfl) (by kernel_rfl) (A := laws_toLiteral.a) (u := laws_toLiteral.u) (fun _ _ h => h) (call := D21) (lp := fun n => noL) (D21_ok hX) (fun n => noL_ok) (fun n v K => by kernel_rfl)
def D22 (n : Nat) : CallF := orC 184 laws_toLiteral.a (laws_toLiteral.u n) (D21 n)
theorem D22_ok : ∀ n g a K, D22 n g a K → callM C X0 n g a K := fun n => orC_ok (laws_toLiteral_ok hX n) (D21_ok hX n)
abbrev laws_toLiteralS.a : List TS := [.c (.o (.dat 216 (.prod (.int .i64) (.prod .bool (.prod (.sl 222 (.prod (.int .i64) (.prod (.int .i64) (.prod (.int .i64) (.prod (.int .i64) (.prod (.int .i64) (.prod (.sl 182 (.int .u64)) (.sl 2 (.int .i64))))))))) (.sl 222 (.prod (.int .i64) (.prod (.int .i64) (.prod (.int .i64) (.prod (.int .i64) (.prod (.int .i64) (.prod (.sl 182 (.int .u64)) (.sl 2 (.int .i64))))))))))))))]
def laws_toLiteralS.u (n : Nat) (v : VA laws_toLiteralS.a) (K : RES → Prop) : Prop := laws_toLiteralS.c n v.1 (fun r0 => K ⟨.c (.row ⟨81, .prod (.int .i64) (.prod .bool (.prod (.sl 155 (.prod (.int .i64) (.prod (.int .i64) (.prod (.int .i64) (.prod (.int .i64) (.prod (.int .i64) (.prod (.sl 182 (.int .u64)) (.sl 2 (.int .i64))))))))) (.sl 155 (.prod (.int .i64) (.prod (.int .i64) (.prod (.int .i64) (.prod (.int .i64) (.prod (.int .i64) (.prod (.sl 182 (.int .u64)) (.sl 2 (.int .i64))))))))))), r0, 99, none⟩), []⟩)
abbrev laws_toLiteralS.l3.s : ST := ⟨[(0, .c (.o (.dat 216 (.prod (.int .i64) (.prod .bool (.prod (.sl 222 (.prod (.int .i64) (.prod (.int .i64) (.prod (.int .i64) (.prod (.int .i64) (.prod (.int .i64) (.prod (.sl 182 (.int .u64)) (.sl 2 (.int .i64))))))))) (.sl 222 (.prod (.int .i64) (.prod (.int .i64) (.prod (.int .i64) (.prod (.int .i64) (.prod (.int .i64) (.prod (.sl 182 (.int .u64)) (.sl 2 (.int .i64))))))))))))))), (3, .c (.o (.own 224))), (4, .c (.o (.int .i64)))], [⟨224, 81, .prod (.int .i64) (.prod .bool (.prod (.sl 155 (.prod (.int .i64) (.prod (.int .i64) (.prod (.int .i64) (.prod (.int .i64) (.prod (.int .i64) (.prod (.sl 182 (.int .u64)) (.sl 2 (.int .i64))))))))) (.sl 155 (.prod (.int .i64) (.prod (.int .i64) (.prod (.int .i64) (.prod (.int .i64) (.prod (.int .i64) (.prod (.sl 182 (.int .u64)) (.sl 2 (.int .i64))))))))))), 99⟩], [], [], []⟩
def laws_toLiteralS.l3.u (n : Nat) (v : laws_toLiteralS.l3.s.V) (K : X → St → Prop) : Prop := laws_toLiteralS.l3 n v.1.1 v.1.2.2.1 v.2.1.1 (fun y0 => K (.exit 0) ⟨[(3, .c (.own 224))], [(224, ⟨81, .prod (.int .i64) (.prod .bool (.prod (.sl 155 (.prod (.int .i64) (.prod (.int .i64) (.prod (.int .i64) (.prod (.int .i64) (.prod (.int .i64) (.prod (.sl 182 (.int .u64)) (.sl 2 (.int .i64))))))))) (.sl 155 (.prod (.int .i64) (.prod (.int .i64) (.prod (.int .i64) (.prod (.int .i64) (.prod (.int .i64) (.prod (.sl 182 (.int .u64)) (.sl 2 (.int .i64))))))))))), y0, 99, none⟩)], [], [], []⟩)
theorem laws_toLiteralS.l3_ok : ∀ n v K, laws_toLiteralS.l3.u n v K → loopM C X0 n 154 3 (laws_toLiteralS.l3.s.fill v) K :=
 loop_tell hX (fn := Try.f154) (c := bodyOf Try.f154) (a := loopOf Try.f154 3) (li := liOf (C.fi 154).loops 3) (by kernel_rfl) (by kernel_rfl) (of_decide_eq_true rfl) (by kernel_rfl) (by kernel_rfl) (T := laws_toLiteralS.l3.s) (u := laws_toLiteralS.l3.u) (fun _ _ h => h) (call := D22) (lp := fun n => noL) (D22_ok hX) (fun n => noL_ok) (fun n v K => by kernel_rfl)
theorem laws_toLiteralS_ok : ∀ n v K, laws_toLiteralS.u n v K → callM C X0 n 154 (fillA laws_toLiteralS.a v) K :=
 call_tell hX (fn := Try.f154) (c := bodyOf Try.f154) (by kernel_rfl) (by kernel_rfl) (A := laws_toLiteralS.a) (u := laws_toLiteralS.u) (fun _ _ h => h) (call := D22) (lp := fun n => orL 3 laws_toLiteralS.l3.s (laws_toLiteralS.l3.u n) noL) (D22_ok hX) (fun n => (orL_ok (laws_toLiteralS.l3_ok hX n) noL_ok)) (fun n v K => by kernel_rfl)
def D23 (n : Nat) : CallF := orC 154 laws_toLiteralS.a (laws_toLiteralS.u n) (D22 n)
theorem D23_ok : ∀ n g a K, D23 n g a K → callM C X0 n g a K := fun n => orC_ok (laws_toLiteralS_ok hX n) (D22_ok hX n)
abbrev laws_toScope.a : List TS := [.a [.o (.int .i64), .o (.dat 216 (.prod (.int .i64) (.prod .bool (.prod (.sl 222 (.prod (.int .i64) (.prod (.int .i64) (.prod (.int .i64) (.prod (.int .i64) (.prod (.int .i64) (.prod (.sl 182 (.int .u64)) (.sl 2 (.int .i64))))))))) (.sl 222 (.prod (.int .i64) (.prod (.int .i64) (.prod (.int .i64) (.prod (.int .i64) (.prod (.int .i64) (.prod (.sl 182 (.int .u64)) (.sl 2 (.int .i64)))))))))))))]]
def laws_toScope.u (n : Nat) (v : VA laws_toScope.a) (K : RES → Prop) : Prop := laws_toScope.c n v.1.1 v.1.2.1 (fun r0 r1 => K ⟨.agg [.int .i64 r0, .row ⟨81, .prod (.int .i64) (.prod .bool (.prod (.sl 155 (.prod (.int .i64) (.prod (.int .i64) (.prod (.int .i64) (.prod (.int .i64) (.prod (.int .i64) (.prod (.sl 182 (.int .u64)) (.sl 2 (.int .i64))))))))) (.sl 155 (.prod (.int .i64) (.prod (.int .i64) (.prod (.int .i64) (.prod (.int .i64) (.prod (.int .i64) (.prod (.sl 182 (.int .u64)) (.sl 2 (.int .i64))))))))))), r1, 99, none⟩], []⟩)
theorem laws_toScope_ok : ∀ n v K, laws_toScope.u n v K → callM C X0 n 105 (fillA laws_toScope.a v) K :=
 call_tell hX (fn := Try.f105) (c := bodyOf Try.f105) (by kernel_rfl) (by kernel_rfl) (A := laws_toScope.a) (u := laws_toScope.u) (fun _ _ h => h) (call := D23) (lp := fun n => noL) (D23_ok hX) (fun n => noL_ok) (fun n v K => by kernel_rfl)
def D24 (n : Nat) : CallF := orC 105 laws_toScope.a (laws_toScope.u n) (D23 n)
theorem D24_ok : ∀ n g a K, D24 n g a K → callM C X0 n g a K := fun n => orC_ok (laws_toScope_ok hX n) (D23_ok hX n)
abbrev laws_toScopeS.a : List TS := [.c (.o (.dat 145 (.prod (.int .i64) (.sl 216 (.prod (.int .i64) (.prod .bool (.prod (.sl 222 (.prod (.int .i64) (.prod (.int .i64) (.prod (.int .i64) (.prod (.int .i64) (.prod (.int .i64) (.prod (.sl 182 (.int .u64)) (.sl 2 (.int .i64))))))))) (.sl 222 (.prod (.int .i64) (.prod (.int .i64) (.prod (.int .i64) (.prod (.int .i64) (.prod (.int .i64) (.prod (.sl 182 (.int .u64)) (.sl 2 (.int .i64))))))))))))))))]
def laws_toScopeS.u (n : Nat) (v : VA laws_toScopeS.a) (K : RES → Prop) : Prop := laws_toScopeS.c n v.1 (fun r0 => K ⟨.c (.row ⟨91, .prod (.int .i64) (.sl 81 (.prod (.int .i64) (.prod .bool (.prod (.sl 155 (.prod (.int .i64) (.prod (.int .i64) (.prod (.int .i64) (.prod (.int .i64) (.prod (.int .i64) (.prod (.sl 182 (.int .u64)) (.sl 2 (.int .i64))))))))) (.sl 155 (.prod (.int .i64) (.prod (.int .i64) (.prod (.int .i64) (.prod (.int .i64) (.prod (.int .i64) (.prod (.sl 182 (.int .u64)) (.sl 2 (.int .i64))))))))))))), r0, 99, none⟩), []⟩)
abbrev laws_toScopeS.l3.s : ST := ⟨[(0, .c (.o (.dat 145 (.prod (.int .i64) (.sl 216 (.prod (.int .i64) (.prod .bool (.prod (.sl 222 (.prod (.int .i64) (.prod (.int .i64) (.prod (.int .i64) (.prod (.int .i64) (.prod (.int .i64) (.prod (.sl 182 (.int .u64)) (.sl 2 (.int .i64))))))))) (.sl 222 (.prod (.int .i64) (.prod (.int .i64) (.prod (.int .i64) (.prod (.int .i64) (.prod (.int .i64) (.prod (.sl 182 (.int .u64)) (.sl 2 (.int .i64))))))))))))))))), (3, .c (.o (.own 224))), (4, .c (.o (.int .i64)))], [⟨224, 91, .prod (.int .i64) (.sl 81 (.prod (.int .i64) (.prod .bool (.prod (.sl 155 (.prod (.int .i64) (.prod (.int .i64) (.prod (.int .i64) (.prod (.int .i64) (.prod (.int .i64) (.prod (.sl 182 (.int .u64)) (.sl 2 (.int .i64))))))))) (.sl 155 (.prod (.int .i64) (.prod (.int .i64) (.prod (.int .i64) (.prod (.int .i64) (.prod (.int .i64) (.prod (.sl 182 (.int .u64)) (.sl 2 (.int .i64))))))))))))), 99⟩], [], [], []⟩
def laws_toScopeS.l3.u (n : Nat) (v : laws_toScopeS.l3.s.V) (K : X → St → Prop) : Prop := laws_toScopeS.l3 n v.1.1 v.1.2.2.1 v.2.1.1 (fun y0 => K (.exit 0) ⟨[(3, .c (.own 224))], [(224, ⟨91, .prod (.int .i64) (.sl 81 (.prod (.int .i64) (.prod .bool (.prod (.sl 155 (.prod (.int .i64) (.prod (.int .i64) (.prod (.int .i64) (.prod (.int .i64) (.prod (.int .i64) (.prod (.sl 182 (.int .u64)) (.sl 2 (.int .i64))))))))) (.sl 155 (.prod (.int .i64) (.prod (.int .i64) (.prod (.int .i64) (.prod (.int .i64) (.prod (.int .i64) (.prod (.sl 182 (.int .u64)) (.sl 2 (.int .i64))))))))))))), y0, 99, none⟩)], [], [], []⟩)
theorem laws_toScopeS.l3_ok : ∀ n v K, laws_toScopeS.l3.u n v K → loopM C X0 n 46 3 (laws_toScopeS.l3.s.fill v) K :=
 loop_tell hX (fn := Try.f46) (c := bodyOf Try.f46) (a := loopOf Try.f46 3) (li := liOf (C.fi 46).loops 3) (by kernel_rfl) (by kernel_rfl) (of_decide_eq_true rfl) (by kernel_rfl) (by kernel_rfl) (T := laws_toScopeS.l3.s) (u := laws_toScopeS.l3.u) (fun _ _ h => h) (call := D24) (lp := fun n => noL) (D24_ok hX) (fun n => noL_ok) (fun n v K => by kernel_rfl)
theorem laws_toScopeS_ok : ∀ n v K, laws_toScopeS.u n v K → callM C X0 n 46 (fillA laws_toScopeS.a v) K :=
 call_tell hX (fn := Try.f46) (c := bodyOf Try.f46) (by kernel_rfl) (by kernel_rfl) (A := laws_toScopeS.a) (u := laws_toScopeS.u) (fun _ _ h => h) (call := D24) (lp := fun n => orL 3 laws_toScopeS.l3.s (laws_toScopeS.l3.u n) noL) (D24_ok hX) (fun n => (orL_ok (laws_toScopeS.l3_ok hX n) noL_ok)) (fun n v K => by kernel_rfl)
def D25 (n : Nat) : CallF := orC 46 laws_toScopeS.a (laws_toScopeS.u n) (D24 n)
theorem D25_ok : ∀ n g a K, D25 n g a K → callM C X0 n g a K := fun n => orC_ok (laws_toScopeS_ok hX n) (D24_ok hX n)
abbrev laws_toSession.a : List TS := [.a [.o (.dat 98 (.prod .str (.int .i64))), .o (.dat 145 (.prod (.int .i64) (.sl 216 (.prod (.int .i64) (.prod .bool (.prod (.sl 222 (.prod (.int .i64) (.prod (.int .i64) (.prod (.int .i64) (.prod (.int .i64) (.prod (.int .i64) (.prod (.sl 182 (.int .u64)) (.sl 2 (.int .i64))))))))) (.sl 222 (.prod (.int .i64) (.prod (.int .i64) (.prod (.int .i64) (.prod (.int .i64) (.prod (.int .i64) (.prod (.sl 182 (.int .u64)) (.sl 2 (.int .i64))))))))))))))), .o (.int .i64)]]
def laws_toSession.u (n : Nat) (v : VA laws_toSession.a) (K : RES → Prop) : Prop := laws_toSession.c n v.1.1 v.1.2.1 v.1.2.2.1 (fun r0 r1 r2 => K ⟨.agg [.row ⟨89, .prod .str (.int .i64), r0, 99, none⟩, .row ⟨91, .prod (.int .i64) (.sl 81 (.prod (.int .i64) (.prod .bool (.prod (.sl 155 (.prod (.int .i64) (.prod (.int .i64) (.prod (.int .i64) (.prod (.int .i64) (.prod (.int .i64) (.prod (.sl 182 (.int .u64)) (.sl 2 (.int .i64))))))))) (.sl 155 (.prod (.int .i64) (.prod (.int .i64) (.prod (.int .i64) (.prod (.int .i64) (.prod (.int .i64) (.prod (.sl 182 (.int .u64)) (.sl 2 (.int .i64))))))))))))), r1, 99, none⟩, .int .i64 r2], []⟩)
theorem laws_toSession_ok : ∀ n v K, laws_toSession.u n v K → callM C X0 n 10 (fillA laws_toSession.a v) K :=
 call_tell hX (fn := Try.f10) (c := bodyOf Try.f10) (by kernel_rfl) (by kernel_rfl) (A := laws_toSession.a) (u := laws_toSession.u) (fun _ _ h => h) (call := D25) (lp := fun n => noL) (D25_ok hX) (fun n => noL_ok) (fun n v K => by kernel_rfl)
def D26 (n : Nat) : CallF := orC 10 laws_toSession.a (laws_toSession.u n) (D25 n)
theorem D26_ok : ∀ n g a K, D26 n g a K → callM C X0 n g a K := fun n => orC_ok (laws_toSession_ok hX n) (D25_ok hX n)
abbrev spec_l1Digit.a : List TS := [.c (.o (.int .u8))]
def spec_l1Digit.u (n : Nat) (v : VA spec_l1Digit.a) (K : RES → Prop) : Prop := spec_l1Digit.c n v.1 (fun r0 => K ⟨.c (.bool r0), []⟩)
theorem spec_l1Digit_ok : ∀ n v K, spec_l1Digit.u n v K → callM C X0 n 160 (fillA spec_l1Digit.a v) K :=
 call_tell hX (fn := Try.f160) (c := bodyOf Try.f160) (by kernel_rfl) (by kernel_rfl) (A := spec_l1Digit.a) (u := spec_l1Digit.u) (fun _ _ h => h) (call := D26) (lp := fun n => noL) (D26_ok hX) (fun n => noL_ok) (fun n v K => by kernel_rfl)
def D27 (n : Nat) : CallF := orC 160 spec_l1Digit.a (spec_l1Digit.u n) (D26 n)
theorem D27_ok : ∀ n g a K, D27 n g a K → callM C X0 n g a K := fun n => orC_ok (spec_l1Digit_ok hX n) (D26_ok hX n)
abbrev spec_l1Name.a : List TS := [.c (.o .str)]
def spec_l1Name.u (n : Nat) (v : VA spec_l1Name.a) (K : RES → Prop) : Prop := spec_l1Name.c n v.1 (fun r0 => K ⟨.c (.bool r0), []⟩)
abbrev spec_l1Name.l4.s : ST := ⟨[(0, .c (.o .str)), (3, .c (.o (.int .i64)))], [], [], [], []⟩
def spec_l1Name.l4.u (n : Nat) (v : spec_l1Name.l4.s.V) (K : X → St → Prop) : Prop := spec_l1Name.l4 n v.1.1 v.1.2.1 (K (.exit 0) ⟨[], [], [], [], []⟩) (fun y0 => K .ret ⟨[(2, .c (.bool y0))], [], [], [], []⟩)
theorem spec_l1Name.l4_ok : ∀ n v K, spec_l1Name.l4.u n v K → loopM C X0 n 120 4 (spec_l1Name.l4.s.fill v) K :=
 loop_tell hX (fn := Try.f120) (c := bodyOf Try.f120) (a := loopOf Try.f120 4) (li := liOf (C.fi 120).loops 4) (by kernel_rfl) (by kernel_rfl) (of_decide_eq_true rfl) (by kernel_rfl) (by kernel_rfl) (T := spec_l1Name.l4.s) (u := spec_l1Name.l4.u) (fun _ _ h => h) (call := D27) (lp := fun n => noL) (D27_ok hX) (fun n => noL_ok) (fun n v K => by kernel_rfl)
theorem spec_l1Name_ok : ∀ n v K, spec_l1Name.u n v K → callM C X0 n 120 (fillA spec_l1Name.a v) K :=
 call_tell hX (fn := Try.f120) (c := bodyOf Try.f120) (by kernel_rfl) (by kernel_rfl) (A := spec_l1Name.a) (u := spec_l1Name.u) (fun _ _ h => h) (call := D27) (lp := fun n => orL 4 spec_l1Name.l4.s (spec_l1Name.l4.u n) noL) (D27_ok hX) (fun n => (orL_ok (spec_l1Name.l4_ok hX n) noL_ok)) (fun n v K => by kernel_rfl)
def D28 (n : Nat) : CallF := orC 120 spec_l1Name.a (spec_l1Name.u n) (D27 n)
theorem D28_ok : ∀ n g a K, D28 n g a K → callM C X0 n g a K := fun n => orC_ok (spec_l1Name_ok hX n) (D27_ok hX n)
abbrev spec_l1In.a : List TS := [.c (.o (.int .i64)), .c (.o (.int .i64)), .c (.o (.int .i64))]
def spec_l1In.u (n : Nat) (v : VA spec_l1In.a) (K : RES → Prop) : Prop := spec_l1In.c n v.1 v.2.1 v.2.2.1 (fun r0 => K ⟨.c (.bool r0), []⟩)
theorem spec_l1In_ok : ∀ n v K, spec_l1In.u n v K → callM C X0 n 102 (fillA spec_l1In.a v) K :=
 call_tell hX (fn := Try.f102) (c := bodyOf Try.f102) (by kernel_rfl) (by kernel_rfl) (A := spec_l1In.a) (u := spec_l1In.u) (fun _ _ h => h) (call := D28) (lp := fun n => noL) (D28_ok hX) (fun n => noL_ok) (fun n v K => by kernel_rfl)
def D29 (n : Nat) : CallF := orC 102 spec_l1In.a (spec_l1In.u n) (D28 n)
theorem D29_ok : ∀ n g a K, D29 n g a K → callM C X0 n g a K := fun n => orC_ok (spec_l1In_ok hX n) (D28_ok hX n)
abbrev spec_DeclsOk.a : List TS := [.c (.o (.dat 89 (.prod .str (.int .i64))))]
def spec_DeclsOk.u (n : Nat) (v : VA spec_DeclsOk.a) (K : RES → Prop) : Prop := spec_DeclsOk.c n v.1 (fun r0 => K ⟨.c (.bool r0), []⟩)
abbrev spec_DeclsOk.l10.s : ST := ⟨[(0, .c (.o (.dat 89 (.prod .str (.int .i64))))), (3, .c (.o (.int .i64))), (4, .c (.o (.int .i64))), (5, .c (.o (.int .i64)))], [], [], [], []⟩
def spec_DeclsOk.l10.u (n : Nat) (v : spec_DeclsOk.l10.s.V) (K : X → St → Prop) : Prop := spec_DeclsOk.l10 n v.1.1 v.1.2.1 v.1.2.2.1 v.1.2.2.2.1 (fun y0 y1 y2 => K (.exit 2) ⟨[(0, .c (.dat 89 (.prod .str (.int .i64)) y0)), (3, .c (.int .i64 y1)), (4, .c (.int .i64 y2))], [], [], [], []⟩) (fun y0 => K .ret ⟨[(2, .c (.bool y0))], [], [], [], []⟩)
abbrev spec_DeclsOk.l5.s : ST := ⟨[(0, .c (.o (.dat 89 (.prod .str (.int .i64))))), (3, .c (.o (.int .i64))), (4, .c (.o (.int .i64)))], [], [], [], []⟩
def spec_DeclsOk.l5.u (n : Nat) (v : spec_DeclsOk.l5.s.V) (K : X → St → Prop) : Prop := spec_DeclsOk.l5 n v.1.1 v.1.2.1 v.1.2.2.1 (fun y0 => K (.exit 0) ⟨[(3, .c (.int .i64 y0))], [], [], [], []⟩) (fun y0 => K .ret ⟨[(2, .c (.bool y0))], [], [], [], []⟩)
theorem spec_DeclsOk.l10_ok : ∀ n v K, spec_DeclsOk.l10.u n v K → loopM C X0 n 66 10 (spec_DeclsOk.l10.s.fill v) K :=
 loop_tell hX (fn := Try.f66) (c := bodyOf Try.f66) (a := loopOf Try.f66 10) (li := liOf (C.fi 66).loops 10) (by kernel_rfl) (by kernel_rfl) (of_decide_eq_true rfl) (by kernel_rfl) (by kernel_rfl) (T := spec_DeclsOk.l10.s) (u := spec_DeclsOk.l10.u) (fun _ _ h => h) (call := D29) (lp := fun n => noL) (D29_ok hX) (fun n => noL_ok) (fun n v K => by kernel_rfl)
theorem spec_DeclsOk.l5_ok : ∀ n v K, spec_DeclsOk.l5.u n v K → loopM C X0 n 66 5 (spec_DeclsOk.l5.s.fill v) K :=
 loop_tell hX (fn := Try.f66) (c := bodyOf Try.f66) (a := loopOf Try.f66 5) (li := liOf (C.fi 66).loops 5) (by kernel_rfl) (by kernel_rfl) (of_decide_eq_true rfl) (by kernel_rfl) (by kernel_rfl) (T := spec_DeclsOk.l5.s) (u := spec_DeclsOk.l5.u) (fun _ _ h => h) (call := D29) (lp := fun n => orL 10 spec_DeclsOk.l10.s (spec_DeclsOk.l10.u n) noL) (D29_ok hX) (fun n => (orL_ok (spec_DeclsOk.l10_ok hX n) noL_ok)) (fun n v K => by kernel_rfl)
theorem spec_DeclsOk_ok : ∀ n v K, spec_DeclsOk.u n v K → callM C X0 n 66 (fillA spec_DeclsOk.a v) K :=
 call_tell hX (fn := Try.f66) (c := bodyOf Try.f66) (by kernel_rfl) (by kernel_rfl) (A := spec_DeclsOk.a) (u := spec_DeclsOk.u) (fun _ _ h => h) (call := D29) (lp := fun n => orL 5 spec_DeclsOk.l5.s (spec_DeclsOk.l5.u n) noL) (D29_ok hX) (fun n => (orL_ok (spec_DeclsOk.l5_ok hX n) noL_ok)) (fun n v K => by kernel_rfl)
def D30 (n : Nat) : CallF := orC 66 spec_DeclsOk.a (spec_DeclsOk.u n) (D29 n)
theorem D30_ok : ∀ n g a K, D30 n g a K → callM C X0 n g a K := fun n => orC_ok (spec_DeclsOk_ok hX n) (D29_ok hX n)
abbrev spec_l3NoBits.a : List TS := [.a [.o (.int .i64), .o (.dat 182 (.int .u64))]]
def spec_l3NoBits.u (n : Nat) (v : VA spec_l3NoBits.a) (K : RES → Prop) : Prop := spec_l3NoBits.c n v.1.1 v.1.2.1 (fun r0 => K ⟨.c (.bool r0), []⟩)
theorem spec_l3NoBits_ok : ∀ n v K, spec_l3NoBits.u n v K → callM C X0 n 225 (fillA spec_l3NoBits.a v) K :=
 call_tell hX (fn := Try.f225) (c := bodyOf Try.f225) (by kernel_rfl) (by kernel_rfl) (A := spec_l3NoBits.a) (u := spec_l3NoBits.u) (fun _ _ h => h) (call := D30) (lp := fun n => noL) (D30_ok hX) (fun n => noL_ok) (fun n v K => by kernel_rfl)
def D31 (n : Nat) : CallF := orC 225 spec_l3NoBits.a (spec_l3NoBits.u n) (D30 n)
theorem D31_ok : ∀ n g a K, D31 n g a K → callM C X0 n g a K := fun n => orC_ok (spec_l3NoBits_ok hX n) (D30_ok hX n)
abbrev spec_l3One.a : List TS := [.c (.o (.int .i64))]
def spec_l3One.u (n : Nat) (v : VA spec_l3One.a) (K : RES → Prop) : Prop := spec_l3One.c n v.1 (fun r0 => K ⟨.c (.bool r0), []⟩)
theorem spec_l3One_ok : ∀ n v K, spec_l3One.u n v K → callM C X0 n 226 (fillA spec_l3One.a v) K :=
 call_tell hX (fn := Try.f226) (c := bodyOf Try.f226) (by kernel_rfl) (by kernel_rfl) (A := spec_l3One.a) (u := spec_l3One.u) (fun _ _ h => h) (call := D31) (lp := fun n => noL) (D31_ok hX) (fun n => noL_ok) (fun n v K => by kernel_rfl)
def D32 (n : Nat) : CallF := orC 226 spec_l3One.a (spec_l3One.u n) (D31 n)
theorem D32_ok : ∀ n g a K, D32 n g a K → callM C X0 n g a K := fun n => orC_ok (spec_l3One_ok hX n) (D31_ok hX n)
abbrev spec_l1Bit.a : List TS := [.a [.o (.int .i64), .o (.dat 182 (.int .u64))], .c (.o (.int .i64))]
def spec_l1Bit.u (n : Nat) (v : VA spec_l1Bit.a) (K : RES → Prop) : Prop := spec_l1Bit.c n v.1.1 v.1.2.1 v.2.1 (fun r0 => K ⟨.c (.int .u8 r0), []⟩)
theorem spec_l1Bit_ok : ∀ n v K, spec_l1Bit.u n v K → callM C X0 n 94 (fillA spec_l1Bit.a v) K :=
 call_tell hX (fn := Try.f94) (c := bodyOf Try.f94) (by kernel_rfl) (by kernel_rfl) (A := spec_l1Bit.a) (u := spec_l1Bit.u) (fun _ _ h => h) (call := D32) (lp := fun n => noL) (D32_ok hX) (fun n => noL_ok) (fun n v K => by kernel_rfl)
def D33 (n : Nat) : CallF := orC 94 spec_l1Bit.a (spec_l1Bit.u n) (D32 n)
theorem D33_ok : ∀ n g a K, D33 n g a K → callM C X0 n g a K := fun n => orC_ok (spec_l1Bit_ok hX n) (D32_ok hX n)
abbrev spec_BitsOk.a : List TS := [.a [.o (.int .i64), .o (.dat 182 (.int .u64))]]
def spec_BitsOk.u (n : Nat) (v : VA spec_BitsOk.a) (K : RES → Prop) : Prop := spec_BitsOk.c n v.1.1 v.1.2.1 (fun r0 => K ⟨.c (.bool r0), []⟩)
abbrev spec_BitsOk.l4.s : ST := ⟨[(1, .c (.o (.pbox 1 0))), (3, .c (.o (.int .i64)))], [], [⟨1, 59, [.o (.int .i64), .o (.dat 182 (.int .u64))], false⟩], [], []⟩
def spec_BitsOk.l4.u (n : Nat) (v : spec_BitsOk.l4.s.V) (K : X → St → Prop) : Prop := spec_BitsOk.l4 n v.2.2.1.1 v.2.2.1.2.1 v.1.2.1 (K (.exit 0) ⟨[], [], [], [], []⟩) (fun y0 => K .ret ⟨[(2, .c (.bool y0))], [], [], [], []⟩)
theorem spec_BitsOk.l4_ok : ∀ n v K, spec_BitsOk.l4.u n v K → loopM C X0 n 91 4 (spec_BitsOk.l4.s.fill v) K :=
 loop_tell hX (fn := Try.f91) (c := bodyOf Try.f91) (a := loopOf Try.f91 4) (li := liOf (C.fi 91).loops 4) (by kernel_rfl) (by kernel_rfl) (of_decide_eq_true rfl) (by kernel_rfl) (by kernel_rfl) (T := spec_BitsOk.l4.s) (u := spec_BitsOk.l4.u) (fun _ _ h => h) (call := D33) (lp := fun n => noL) (D33_ok hX) (fun n => noL_ok) (fun n v K => by kernel_rfl)
theorem spec_BitsOk_ok : ∀ n v K, spec_BitsOk.u n v K → callM C X0 n 91 (fillA spec_BitsOk.a v) K :=
 call_tell hX (fn := Try.f91) (c := bodyOf Try.f91) (by kernel_rfl) (by kernel_rfl) (A := spec_BitsOk.a) (u := spec_BitsOk.u) (fun _ _ h => h) (call := D33) (lp := fun n => orL 4 spec_BitsOk.l4.s (spec_BitsOk.l4.u n) noL) (D33_ok hX) (fun n => (orL_ok (spec_BitsOk.l4_ok hX n) noL_ok)) (fun n v K => by kernel_rfl)
def D34 (n : Nat) : CallF := orC 91 spec_BitsOk.a (spec_BitsOk.u n) (D33 n)
theorem D34_ok : ∀ n g a K, D34 n g a K → callM C X0 n g a K := fun n => orC_ok (spec_BitsOk_ok hX n) (D33_ok hX n)
abbrev spec_l3Form.a : List TS := [.c (.o (.dat 89 (.prod .str (.int .i64)))), .a [.o (.int .i64), .o (.int .i64), .o (.int .i64), .o (.int .i64), .o (.int .i64), .o (.dat 182 (.int .u64)), .o (.dat 2 (.int .i64))], .c (.o (.int .i64))]
def spec_l3Form.u (n : Nat) (v : VA spec_l3Form.a) (K : RES → Prop) : Prop := spec_l3Form.c n v.1 v.2.1.1 v.2.1.2.1 v.2.1.2.2.1 v.2.1.2.2.2.1 v.2.1.2.2.2.2.1 v.2.1.2.2.2.2.2.1 v.2.1.2.2.2.2.2.2.1 v.2.2.1 (fun r0 => K ⟨.c (.bool r0), []⟩)
abbrev spec_l3Form.l2.s : ST := ⟨[(0, .c (.o (.dat 89 (.prod .str (.int .i64))))), (2, .c (.o (.int .i64))), (4, .c (.o (.pbox 4 0))), (7, .c (.o (.int .i64)))], [], [⟨4, 155, [.o (.int .i64), .o (.int .i64), .o (.int .i64), .o (.int .i64), .o (.int .i64), .o (.dat 182 (.int .u64)), .o (.dat 2 (.int .i64))], false⟩], [], []⟩
def spec_l3Form.l2.u (n : Nat) (v : spec_l3Form.l2.s.V) (K : X → St → Prop) : Prop := spec_l3Form.l2 n v.1.1 v.1.2.1 v.2.2.1.1 v.2.2.1.2.1 v.2.2.1.2.2.1 v.2.2.1.2.2.2.1 v.2.2.1.2.2.2.2.1 v.2.2.1.2.2.2.2.2.1 v.2.2.1.2.2.2.2.2.2.1 v.1.2.2.2.1 (fun y0 y1 y2 y3 y4 y5 y6 y7 => K (.exit 0) ⟨[(0, .c (.dat 89 (.prod .str (.int .i64)) y0)), (4, .c (.pbox 4 0))], [], [(4, ⟨155, [.int .i64 y1, .int .i64 y2, .int .i64 y3, .int .i64 y4, .int .i64 y5, .dat 182 (.int .u64) y6, .dat 2 (.int .i64) y7], false⟩)], [], []⟩) (fun y0 => K .ret ⟨[(6, .c (.bool y0))], [], [], [], []⟩)
abbrev spec_l3Form.q7.s : ST := ⟨[(0, .c (.o (.dat 89 (.prod .str (.int .i64))))), (4, .c (.o (.pbox 4 0))), (63, .c (.o .bool))], [], [⟨4, 155, [.o (.int .i64), .o (.int .i64), .o (.int .i64), .o (.int .i64), .o (.int .i64), .o (.dat 182 (.int .u64)), .o (.dat 2 (.int .i64))], false⟩], [], []⟩
def spec_l3Form.q7.u (n : Nat) (v : spec_l3Form.q7.s.V) (K : X → St → Prop) : Prop := spec_l3Form.q7 n v.1.1 v.1.2.2.1 v.2.2.1.1 v.2.2.1.2.1 v.2.2.1.2.2.1 v.2.2.1.2.2.2.1 v.2.2.1.2.2.2.2.1 v.2.2.1.2.2.2.2.2.1 v.2.2.1.2.2.2.2.2.2.1 (fun y0 => K .ret ⟨[(6, .c (.bool y0))], [], [], [], []⟩) (fun y0 y1 y2 y3 y4 y5 y6 y7 => K .normal ⟨[(0, .c (.dat 89 (.prod .str (.int .i64)) y0)), (4, .c (.pbox 4 0))], [], [(4, ⟨155, [.int .i64 y1, .int .i64 y2, .int .i64 y3, .int .i64 y4, .int .i64 y5, .dat 182 (.int .u64) y6, .dat 2 (.int .i64) y7], false⟩)], [], []⟩)
abbrev spec_l3Form.q8.s : ST := ⟨[(0, .c (.o (.dat 89 (.prod .str (.int .i64))))), (4, .c (.o (.pbox 4 0)))], [], [⟨4, 155, [.o (.int .i64), .o (.int .i64), .o (.int .i64), .o (.int .i64), .o (.int .i64), .o (.dat 182 (.int .u64)), .o (.dat 2 (.int .i64))], false⟩], [], []⟩
def spec_l3Form.q8.u (n : Nat) (v : spec_l3Form.q8.s.V) (K : X → St → Prop) : Prop := spec_l3Form.q8 n v.1.1 v.2.2.1.1 v.2.2.1.2.1 v.2.2.1.2.2.1 v.2.2.1.2.2.2.1 v.2.2.1.2.2.2.2.1 v.2.2.1.2.2.2.2.2.1 v.2.2.1.2.2.2.2.2.2.1 (fun y0 => K .ret ⟨[(6, .c (.bool y0))], [], [], [], []⟩)
theorem spec_l3Form.l2_ok : ∀ n v K, spec_l3Form.l2.u n v K → loopM C X0 n 188 2 (spec_l3Form.l2.s.fill v) K :=
 loop_tell hX (fn := Try.f188) (c := bodyOf Try.f188) (a := loopOf Try.f188 2) (li := liOf (C.fi 188).loops 2) (by kernel_rfl) (by kernel_rfl) (of_decide_eq_true rfl) (by kernel_rfl) (by kernel_rfl) (T := spec_l3Form.l2.s) (u := spec_l3Form.l2.u) (fun _ _ h => h) (call := D34) (lp := fun n => noL) (D34_ok hX) (fun n => noL_ok) (fun n v K => by kernel_rfl)
theorem spec_l3Form.q7_ok : ∀ n v K, spec_l3Form.q7.u n v K → loopM C X0 n 188 1000007 (spec_l3Form.q7.s.fill v) K :=
 cut_tell hX (fn := Try.f188) (c := bodyOf Try.f188) (a := cutOf Try.f188 7) (li := liOf (C.fi 188).loops 1000007) (by kernel_rfl) (by kernel_rfl) (of_decide_eq_true rfl) (by kernel_rfl) (by kernel_rfl) (T := spec_l3Form.q7.s) (u := spec_l3Form.q7.u) (fun _ _ h => h) (call := D34) (lp := fun n => noL) (D34_ok hX) (fun n => noL_ok) (fun n v K => by kernel_rfl)
theorem spec_l3Form.q8_ok : ∀ n v K, spec_l3Form.q8.u n v K → loopM C X0 n 188 1000008 (spec_l3Form.q8.s.fill v) K :=
 cut_tell hX (fn := Try.f188) (c := bodyOf Try.f188) (a := cutOf Try.f188 8) (li := liOf (C.fi 188).loops 1000008) (by kernel_rfl) (by kernel_rfl) (of_decide_eq_true rfl) (by kernel_rfl) (by kernel_rfl) (T := spec_l3Form.q8.s) (u := spec_l3Form.q8.u) (fun _ _ h => h) (call := D34) (lp := fun n => noL) (D34_ok hX) (fun n => noL_ok) (fun n v K => by kernel_rfl)
theorem spec_l3Form_ok : ∀ n v K, spec_l3Form.u n v K → callM C X0 n 188 (fillA spec_l3Form.a v) K :=
 call_tell hX (fn := Try.f188) (c := bodyOf Try.f188) (by kernel_rfl) (by kernel_rfl) (A := spec_l3Form.a) (u := spec_l3Form.u) (fun _ _ h => h) (call := D34) (lp := fun n => orL 2 spec_l3Form.l2.s (spec_l3Form.l2.u n) (orL 1000007 spec_l3Form.q7.s (spec_l3Form.q7.u n) (orL 1000008 spec_l3Form.q8.s (spec_l3Form.q8.u n) noL))) (D34_ok hX) (fun n => (orL_ok (spec_l3Form.l2_ok hX n) (orL_ok (spec_l3Form.q7_ok hX n) (orL_ok (spec_l3Form.q8_ok hX n) noL_ok)))) (fun n v K => by kernel_rfl)
def D35 (n : Nat) : CallF := orC 188 spec_l3Form.a (spec_l3Form.u n) (D34 n)
theorem D35_ok : ∀ n g a K, D35 n g a K → callM C X0 n g a K := fun n => orC_ok (spec_l3Form_ok hX n) (D34_ok hX n)
abbrev spec_l3Wide.a : List TS := [.c (.o (.dat 89 (.prod .str (.int .i64)))), .a [.o (.int .i64), .o (.int .i64), .o (.int .i64), .o (.int .i64), .o (.int .i64), .o (.dat 182 (.int .u64)), .o (.dat 2 (.int .i64))], .c (.o (.dat 2 (.int .i64)))]
def spec_l3Wide.u (n : Nat) (v : VA spec_l3Wide.a) (K : RES → Prop) : Prop := spec_l3Wide.c n v.1 v.2.1.1 v.2.1.2.1 v.2.1.2.2.1 v.2.1.2.2.2.1 v.2.1.2.2.2.2.1 v.2.1.2.2.2.2.2.1 v.2.1.2.2.2.2.2.2.1 v.2.2.1 (fun r0 => K ⟨.c (.int .i64 r0), []⟩)
abbrev spec_l3Wide.l3.s : ST := ⟨[(0, .c (.o (.dat 89 (.prod .str (.int .i64))))), (2, .c (.o (.dat 2 (.int .i64)))), (4, .c (.o (.pbox 4 0))), (7, .c (.o (.int .i64))), (8, .c (.o (.int .i64)))], [], [⟨4, 155, [.o (.int .i64), .o (.int .i64), .o (.int .i64), .o (.int .i64), .o (.int .i64), .o (.dat 182 (.int .u64)), .o (.dat 2 (.int .i64))], false⟩], [], []⟩
def spec_l3Wide.l3.u (n : Nat) (v : spec_l3Wide.l3.s.V) (K : X → St → Prop) : Prop := spec_l3Wide.l3 n v.1.1 v.1.2.1 v.2.2.1.1 v.2.2.1.2.1 v.2.2.1.2.2.1 v.2.2.1.2.2.2.1 v.2.2.1.2.2.2.2.1 v.2.2.1.2.2.2.2.2.1 v.2.2.1.2.2.2.2.2.2.1 v.1.2.2.2.1 v.1.2.2.2.2.1 (fun y0 y1 y2 y3 y4 y5 y6 y7 y8 => K (.exit 0) ⟨[(0, .c (.dat 89 (.prod .str (.int .i64)) y0)), (4, .c (.pbox 4 0)), (7, .c (.int .i64 y1))], [], [(4, ⟨155, [.int .i64 y2, .int .i64 y3, .int .i64 y4, .int .i64 y5, .int .i64 y6, .dat 182 (.int .u64) y7, .dat 2 (.int .i64) y8], false⟩)], [], []⟩)
theorem spec_l3Wide.l3_ok : ∀ n v K, spec_l3Wide.l3.u n v K → loopM C X0 n 189 3 (spec_l3Wide.l3.s.fill v) K :=
 loop_tell hX (fn := Try.f189) (c := bodyOf Try.f189) (a := loopOf Try.f189 3) (li := liOf (C.fi 189).loops 3) (by kernel_rfl) (by kernel_rfl) (of_decide_eq_true rfl) (by kernel_rfl) (by kernel_rfl) (T := spec_l3Wide.l3.s) (u := spec_l3Wide.l3.u) (fun _ _ h => h) (call := D35) (lp := fun n => noL) (D35_ok hX) (fun n => noL_ok) (fun n v K => by kernel_rfl)
theorem spec_l3Wide_ok : ∀ n v K, spec_l3Wide.u n v K → callM C X0 n 189 (fillA spec_l3Wide.a v) K :=
 call_tell hX (fn := Try.f189) (c := bodyOf Try.f189) (by kernel_rfl) (by kernel_rfl) (A := spec_l3Wide.a) (u := spec_l3Wide.u) (fun _ _ h => h) (call := D35) (lp := fun n => orL 3 spec_l3Wide.l3.s (spec_l3Wide.l3.u n) noL) (D35_ok hX) (fun n => (orL_ok (spec_l3Wide.l3_ok hX n) noL_ok)) (fun n v K => by kernel_rfl)
def D36 (n : Nat) : CallF := orC 189 spec_l3Wide.a (spec_l3Wide.u n) (D35 n)
theorem D36_ok : ∀ n g a K, D36 n g a K → callM C X0 n g a K := fun n => orC_ok (spec_l3Wide_ok hX n) (D35_ok hX n)
abbrev spec_l3Widths.a : List TS := [.c (.o (.dat 89 (.prod .str (.int .i64)))), .a [.o (.dat 155 (.prod (.int .i64) (.prod (.int .i64) (.prod (.int .i64) (.prod (.int .i64) (.prod (.int .i64) (.prod (.sl 182 (.int .u64)) (.sl 2 (.int .i64)))))))))]]
def spec_l3Widths.u (n : Nat) (v : VA spec_l3Widths.a) (K : RES → Prop) : Prop := spec_l3Widths.c n v.1 v.2.1.1 (fun r0 => K ⟨.c (.row ⟨2, .int .i64, r0, 99, none⟩), []⟩)
abbrev spec_l3Widths.l16.s : ST := ⟨[(0, .c (.o (.dat 89 (.prod .str (.int .i64))))), (3, .c (.o (.pbox 3 0))), (5, .c (.o (.own 384))), (6, .c (.o (.own 2112))), (7, .c (.o (.own 1056))), (8, .c (.o (.int .i64))), (10, .c (.o (.int .i64)))], [⟨384, 2, .int .i64, 99⟩, ⟨1056, 4, .bool, 99⟩, ⟨2112, 2, .int .i64, 99⟩], [⟨3, 79, [.o (.dat 155 (.prod (.int .i64) (.prod (.int .i64) (.prod (.int .i64) (.prod (.int .i64) (.prod (.int .i64) (.prod (.sl 182 (.int .u64)) (.sl 2 (.int .i64)))))))))], false⟩], [], []⟩
def spec_l3Widths.l16.u (n : Nat) (v : spec_l3Widths.l16.s.V) (K : X → St → Prop) : Prop := spec_l3Widths.l16 n v.1.1 v.1.2.2.2.2.2.1 v.2.1.1 v.2.1.2.2.1 v.2.2.1.1 v.1.2.2.2.2.2.2.1 v.2.1.2.1 (fun y0 y1 y2 y3 y4 y5 => K (.exit 2) ⟨[(0, .c (.dat 89 (.prod .str (.int .i64)) y0)), (3, .c (.pbox 3 0)), (5, .c (.own 384)), (6, .c (.own 2112)), (7, .c (.own 1056)), (8, .c (.int .i64 y1))], [(384, ⟨2, .int .i64, y2, 99, none⟩), (1056, ⟨4, .bool, y3, 99, none⟩), (2112, ⟨2, .int .i64, y4, 99, none⟩)], [(3, ⟨79, [.dat 155 (.prod (.int .i64) (.prod (.int .i64) (.prod (.int .i64) (.prod (.int .i64) (.prod (.int .i64) (.prod (.sl 182 (.int .u64)) (.sl 2 (.int .i64)))))))) y5], false⟩)], [], []⟩)
abbrev spec_l3Widths.l7.s : ST := ⟨[(0, .c (.o (.dat 89 (.prod .str (.int .i64))))), (3, .c (.o (.pbox 3 0))), (5, .c (.o (.own 384))), (6, .c (.o (.own 192))), (7, .c (.o (.own 1056))), (8, .c (.o (.int .i64)))], [⟨192, 2, .int .i64, 99⟩, ⟨384, 2, .int .i64, 99⟩, ⟨1056, 4, .bool, 99⟩], [⟨3, 79, [.o (.dat 155 (.prod (.int .i64) (.prod (.int .i64) (.prod (.int .i64) (.prod (.int .i64) (.prod (.int .i64) (.prod (.sl 182 (.int .u64)) (.sl 2 (.int .i64)))))))))], false⟩], [], []⟩
def spec_l3Widths.l7.u (n : Nat) (v : spec_l3Widths.l7.s.V) (K : X → St → Prop) : Prop := spec_l3Widths.l7 n v.1.1 v.1.2.2.2.2.2.1 v.2.1.1 v.2.1.2.1 v.2.1.2.2.1 v.2.2.1.1 (fun y0 y1 y2 => K (.exit 0) ⟨[(5, .c (.own 384)), (6, .c (.own 192)), (7, .c (.own 1056))], [(192, ⟨2, .int .i64, y0, 99, none⟩), (384, ⟨2, .int .i64, y1, 99, none⟩), (1056, ⟨4, .bool, y2, 99, none⟩)], [], [], []⟩) (fun y0 => K .ret ⟨[(4, .c (.own 384))], [(384, ⟨2, .int .i64, y0, 99, none⟩)], [], [], []⟩)
abbrev spec_l3Widths.l20.s : ST := ⟨[(5, .c (.o (.own 384))), (6, .c (.o (.own 192))), (7, .c (.o (.own 1056))), (11, .c (.o (.int .i64)))], [⟨192, 2, .int .i64, 99⟩, ⟨384, 2, .int .i64, 99⟩, ⟨1056, 4, .bool, 99⟩], [], [], []⟩
def spec_l3Widths.l20.u (n : Nat) (v : spec_l3Widths.l20.s.V) (K : X → St → Prop) : Prop := spec_l3Widths.l20 n v.2.1.1 v.2.1.2.1 v.2.1.2.2.1 v.1.2.2.2.1 (fun y0 => K (.exit 4) ⟨[(6, .c (.own 192))], [(192, ⟨2, .int .i64, y0, 99, none⟩)], [], [], []⟩) (fun y0 => K .ret ⟨[(4, .c (.own 384))], [(384, ⟨2, .int .i64, y0, 99, none⟩)], [], [], []⟩)
theorem spec_l3Widths.l16_ok : ∀ n v K, spec_l3Widths.l16.u n v K → loopM C X0 n 159 16 (spec_l3Widths.l16.s.fill v) K :=
 loop_tell hX (fn := Try.f159) (c := bodyOf Try.f159) (a := loopOf Try.f159 16) (li := liOf (C.fi 159).loops 16) (by kernel_rfl) (by kernel_rfl) (of_decide_eq_true rfl) (by kernel_rfl) (by kernel_rfl) (T := spec_l3Widths.l16.s) (u := spec_l3Widths.l16.u) (fun _ _ h => h) (call := D36) (lp := fun n => noL) (D36_ok hX) (fun n => noL_ok) (fun n v K => by kernel_rfl)
theorem spec_l3Widths.l7_ok : ∀ n v K, spec_l3Widths.l7.u n v K → loopM C X0 n 159 7 (spec_l3Widths.l7.s.fill v) K :=
 loop_tell hX (fn := Try.f159) (c := bodyOf Try.f159) (a := loopOf Try.f159 7) (li := liOf (C.fi 159).loops 7) (by kernel_rfl) (by kernel_rfl) (of_decide_eq_true rfl) (by kernel_rfl) (by kernel_rfl) (T := spec_l3Widths.l7.s) (u := spec_l3Widths.l7.u) (fun _ _ h => h) (call := D36) (lp := fun n => orL 16 spec_l3Widths.l16.s (spec_l3Widths.l16.u n) noL) (D36_ok hX) (fun n => (orL_ok (spec_l3Widths.l16_ok hX n) noL_ok)) (fun n v K => by kernel_rfl)
theorem spec_l3Widths.l20_ok : ∀ n v K, spec_l3Widths.l20.u n v K → loopM C X0 n 159 20 (spec_l3Widths.l20.s.fill v) K :=
 loop_tell hX (fn := Try.f159) (c := bodyOf Try.f159) (a := loopOf Try.f159 20) (li := liOf (C.fi 159).loops 20) (by kernel_rfl) (by kernel_rfl) (of_decide_eq_true rfl) (by kernel_rfl) (by kernel_rfl) (T := spec_l3Widths.l20.s) (u := spec_l3Widths.l20.u) (fun _ _ h => h) (call := D36) (lp := fun n => noL) (D36_ok hX) (fun n => noL_ok) (fun n v K => by kernel_rfl)
theorem spec_l3Widths_ok : ∀ n v K, spec_l3Widths.u n v K → callM C X0 n 159 (fillA spec_l3Widths.a v) K :=
 call_tell hX (fn := Try.f159) (c := bodyOf Try.f159) (by kernel_rfl) (by kernel_rfl) (A := spec_l3Widths.a) (u := spec_l3Widths.u) (fun _ _ h => h) (call := D36) (lp := fun n => orL 7 spec_l3Widths.l7.s (spec_l3Widths.l7.u n) (orL 20 spec_l3Widths.l20.s (spec_l3Widths.l20.u n) noL)) (D36_ok hX) (fun n => (orL_ok (spec_l3Widths.l7_ok hX n) (orL_ok (spec_l3Widths.l20_ok hX n) noL_ok))) (fun n v K => by kernel_rfl)
def D37 (n : Nat) : CallF := orC 159 spec_l3Widths.a (spec_l3Widths.u n) (D36 n)
theorem D37_ok : ∀ n g a K, D37 n g a K → callM C X0 n g a K := fun n => orC_ok (spec_l3Widths_ok hX n) (D36_ok hX n)
end
end Go.Vsi
end

section
set_option linter.unusedVariables false
namespace Go.Vsi
open Go.Proofs
section
variable {X0 : CallF} (hX : CallF.Mono X0)
include hX
abbrev spec_WidthOf.a : List TS := [.c (.o (.dat 89 (.prod .str (.int .i64)))), .a [.o (.dat 155 (.prod (.int .i64) (.prod (.int .i64) (.prod (.int .i64) (.prod (.int .i64) (.prod (.int .i64) (.prod (.sl 182 (.int .u64)) (.sl 2 (.int .i64)))))))))]]
def spec_WidthOf.u (n : Nat) (v : VA spec_WidthOf.a) (K : RES → Prop) : Prop := spec_WidthOf.c n v.1 v.2.1.1 (fun r0 => K ⟨.c (.int .i64 r0), []⟩)
theorem spec_WidthOf_ok : ∀ n v K, spec_WidthOf.u n v K → callM C X0 n 119 (fillA spec_WidthOf.a v) K :=
 call_tell hX (fn := Try.f119) (c := bodyOf Try.f119) (by kernel_rfl) (by kernel_rfl) (A := spec_WidthOf.a) (u := spec_WidthOf.u) (fun _ _ h => h) (call := D37) (lp := fun n => noL) (D37_ok hX) (fun n => noL_ok) (fun n v K => by kernel_rfl)
def D38 (n : Nat) : CallF := orC 119 spec_WidthOf.a (spec_WidthOf.u n) (D37 n)
theorem D38_ok : ∀ n g a K, D38 n g a K → callM C X0 n g a K := fun n => orC_ok (spec_WidthOf_ok hX n) (D37_ok hX n)
abbrev spec_LiteralsOk.a : List TS := [.c (.o (.dat 89 (.prod .str (.int .i64)))), .c (.o (.dat 81 (.prod (.int .i64) (.prod .bool (.prod (.sl 155 (.prod (.int .i64) (.prod (.int .i64) (.prod (.int .i64) (.prod (.int .i64) (.prod (.int .i64) (.prod (.sl 182 (.int .u64)) (.sl 2 (.int .i64))))))))) (.sl 155 (.prod (.int .i64) (.prod (.int .i64) (.prod (.int .i64) (.prod (.int .i64) (.prod (.int .i64) (.prod (.sl 182 (.int .u64)) (.sl 2 (.int .i64))))))))))))))]
def spec_LiteralsOk.u (n : Nat) (v : VA spec_LiteralsOk.a) (K : RES → Prop) : Prop := spec_LiteralsOk.c n v.1 v.2.1 (fun r0 => K ⟨.c (.bool r0), []⟩)
abbrev spec_LiteralsOk.l4.s : ST := ⟨[(0, .c (.o (.dat 89 (.prod .str (.int .i64))))), (1, .c (.o (.dat 81 (.prod (.int .i64) (.prod .bool (.prod (.sl 155 (.prod (.int .i64) (.prod (.int .i64) (.prod (.int .i64) (.prod (.int .i64) (.prod (.int .i64) (.prod (.sl 182 (.int .u64)) (.sl 2 (.int .i64))))))))) (.sl 155 (.prod (.int .i64) (.prod (.int .i64) (.prod (.int .i64) (.prod (.int .i64) (.prod (.int .i64) (.prod (.sl 182 (.int .u64)) (.sl 2 (.int .i64))))))))))))))), (5, .c (.o (.int .i64)))], [], [], [], []⟩
def spec_LiteralsOk.l4.u (n : Nat) (v : spec_LiteralsOk.l4.s.V) (K : X → St → Prop) : Prop := spec_LiteralsOk.l4 n v.1.1 v.1.2.1 v.1.2.2.1 (K (.exit 0) ⟨[], [], [], [], []⟩) (fun y0 => K .ret ⟨[(4, .c (.bool y0))], [], [], [], []⟩)
theorem spec_LiteralsOk.l4_ok : ∀ n v K, spec_LiteralsOk.l4.u n v K → loopM C X0 n 103 4 (spec_LiteralsOk.l4.s.fill v) K :=
 loop_tell hX (fn := Try.f103) (c := bodyOf Try.f103) (a := loopOf Try.f103 4) (li := liOf (C.fi 103).loops 4) (by kernel_rfl) (by kernel_rfl) (of_decide_eq_true rfl) (by kernel_rfl) (by kernel_rfl) (T := spec_LiteralsOk.l4.s) (u := spec_LiteralsOk.l4.u) (fun _ _ h => h) (call := D38) (lp := fun n => noL) (D38_ok hX) (fun n => noL_ok) (fun n v K => by kernel_rfl)
theorem spec_LiteralsOk_ok : ∀ n v K, spec_LiteralsOk.u n v K → callM C X0 n 103 (fillA spec_LiteralsOk.a v) K :=
 call_tell hX (fn := Try.f103) (c := bodyOf Try.f103) (by kernel_rfl) (by kernel_rfl) (A := spec_LiteralsOk.a) (u := spec_LiteralsOk.u) (fun _ _ h => h) (call := D38) (lp := fun n => orL 4 spec_LiteralsOk.l4.s (spec_LiteralsOk.l4.u n) noL) (D38_ok hX) (fun n => (orL_ok (spec_LiteralsOk.l4_ok hX n) noL_ok)) (fun n v K => by kernel_rfl)
def D39 (n : Nat) : CallF := orC 103 spec_LiteralsOk.a (spec_LiteralsOk.u n) (D38 n)
theorem D39_ok : ∀ n g a K, D39 n g a K → callM C X0 n g a K := fun n => orC_ok (spec_LiteralsOk_ok hX n) (D38_ok hX n)
abbrev spec_SessionOk.a : List TS := [.a [.o (.dat 89 (.prod .str (.int .i64))), .o (.dat 91 (.prod (.int .i64) (.sl 81 (.prod (.int .i64) (.prod .bool (.prod (.sl 155 (.prod (.int .i64) (.prod (.int .i64) (.prod (.int .i64) (.prod (.int .i64) (.prod (.int .i64) (.prod (.sl 182 (.int .u64)) (.sl 2 (.int .i64))))))))) (.sl 155 (.prod (.int .i64) (.prod (.int .i64) (.prod (.int .i64) (.prod (.int .i64) (.prod (.int .i64) (.prod (.sl 182 (.int .u64)) (.sl 2 (.int .i64))))))))))))))), .o (.int .i64)]]
def spec_SessionOk.u (n : Nat) (v : VA spec_SessionOk.a) (K : RES → Prop) : Prop := spec_SessionOk.c n v.1.1 v.1.2.1 v.1.2.2.1 (fun r0 => K ⟨.c (.bool r0), []⟩)
abbrev spec_SessionOk.l5.s : ST := ⟨[(1, .c (.o (.pbox 1 0))), (3, .c (.o (.int .i64))), (4, .c (.o (.int .i64)))], [], [⟨1, 32, [.o (.dat 89 (.prod .str (.int .i64))), .o (.dat 91 (.prod (.int .i64) (.sl 81 (.prod (.int .i64) (.prod .bool (.prod (.sl 155 (.prod (.int .i64) (.prod (.int .i64) (.prod (.int .i64) (.prod (.int .i64) (.prod (.int .i64) (.prod (.sl 182 (.int .u64)) (.sl 2 (.int .i64))))))))) (.sl 155 (.prod (.int .i64) (.prod (.int .i64) (.prod (.int .i64) (.prod (.int .i64) (.prod (.int .i64) (.prod (.sl 182 (.int .u64)) (.sl 2 (.int .i64))))))))))))))), .o (.int .i64)], false⟩], [], []⟩
def spec_SessionOk.l5.u (n : Nat) (v : spec_SessionOk.l5.s.V) (K : X → St → Prop) : Prop := spec_SessionOk.l5 n v.1.2.1 v.2.2.1.1 v.2.2.1.2.1 v.2.2.1.2.2.1 v.1.2.2.1 (fun y0 y1 y2 y3 => K (.exit 0) ⟨[(1, .c (.pbox 1 0)), (3, .c (.int .i64 y0))], [], [(1, ⟨32, [.dat 89 (.prod .str (.int .i64)) y1, .dat 91 (.prod (.int .i64) (.sl 81 (.prod (.int .i64) (.prod .bool (.prod (.sl 155 (.prod (.int .i64) (.prod (.int .i64) (.prod (.int .i64) (.prod (.int .i64) (.prod (.int .i64) (.prod (.sl 182 (.int .u64)) (.sl 2 (.int .i64))))))))) (.sl 155 (.prod (.int .i64) (.prod (.int .i64) (.prod (.int .i64) (.prod (.int .i64) (.prod (.int .i64) (.prod (.sl 182 (.int .u64)) (.sl 2 (.int .i64)))))))))))))) y2, .int .i64 y3], false⟩)], [], []⟩) (fun y0 => K .ret ⟨[(2, .c (.bool y0))], [], [], [], []⟩)
abbrev spec_SessionOk.l21.s : ST := ⟨[(1, .c (.o (.pbox 1 0))), (3, .c (.o (.int .i64))), (5, .c (.o (.int .i64))), (6, .c (.o (.int .i64))), (7, .c (.o (.int .i64))), (9, .c (.o (.dat 81 (.prod (.int .i64) (.prod .bool (.prod (.sl 155 (.prod (.int .i64) (.prod (.int .i64) (.prod (.int .i64) (.prod (.int .i64) (.prod (.int .i64) (.prod (.sl 182 (.int .u64)) (.sl 2 (.int .i64))))))))) (.sl 155 (.prod (.int .i64) (.prod (.int .i64) (.prod (.int .i64) (.prod (.int .i64) (.prod (.int .i64) (.prod (.sl 182 (.int .u64)) (.sl 2 (.int .i64))))))))))))))), (10, .c (.o (.int .i64)))], [], [⟨1, 32, [.o (.dat 89 (.prod .str (.int .i64))), .o (.dat 91 (.prod (.int .i64) (.sl 81 (.prod (.int .i64) (.prod .bool (.prod (.sl 155 (.prod (.int .i64) (.prod (.int .i64) (.prod (.int .i64) (.prod (.int .i64) (.prod (.int .i64) (.prod (.sl 182 (.int .u64)) (.sl 2 (.int .i64))))))))) (.sl 155 (.prod (.int .i64) (.prod (.int .i64) (.prod (.int .i64) (.prod (.int .i64) (.prod (.int .i64) (.prod (.sl 182 (.int .u64)) (.sl 2 (.int .i64))))))))))))))), .o (.int .i64)], false⟩], [], []⟩
def spec_SessionOk.l21.u (n : Nat) (v : spec_SessionOk.l21.s.V) (K : X → St → Prop) : Prop := spec_SessionOk.l21 n v.1.2.1 v.1.2.2.1 v.1.2.2.2.2.1 v.1.2.2.2.2.2.1 v.2.2.1.1 v.2.2.1.2.1 v.2.2.1.2.2.1 v.1.2.2.2.1 v.1.2.2.2.2.2.2.1 (fun y0 y1 y2 y3 y4 y5 y6 y7 => K (.exit 4) ⟨[(1, .c (.pbox 1 0)), (3, .c (.int .i64 y0)), (5, .c (.int .i64 y1)), (6, .c (.int .i64 y2)), (7, .c (.int .i64 y3)), (9, .c (.dat 81 (.prod (.int .i64) (.prod .bool (.prod (.sl 155 (.prod (.int .i64) (.prod (.int .i64) (.prod (.int .i64) (.prod (.int .i64) (.prod (.int .i64) (.prod (.sl 182 (.int .u64)) (.sl 2 (.int .i64))))))))) (.sl 155 (.prod (.int .i64) (.prod (.int .i64) (.prod (.int .i64) (.prod (.int .i64) (.prod (.int .i64) (.prod (.sl 182 (.int .u64)) (.sl 2 (.int .i64)))))))))))) y4))], [], [(1, ⟨32, [.dat 89 (.prod .str (.int .i64)) y5, .dat 91 (.prod (.int .i64) (.sl 81 (.prod (.int .i64) (.prod .bool (.prod (.sl 155 (.prod (.int .i64) (.prod (.int .i64) (.prod (.int .i64) (.prod (.int .i64) (.prod (.int .i64) (.prod (.sl 182 (.int .u64)) (.sl 2 (.int .i64))))))))) (.sl 155 (.prod (.int .i64) (.prod (.int .i64) (.prod (.int .i64) (.prod (.int .i64) (.prod (.int .i64) (.prod (.sl 182 (.int .u64)) (.sl 2 (.int .i64)))))))))))))) y6, .int .i64 y7], false⟩)], [], []⟩) (fun y0 => K .ret ⟨[(2, .c (.bool y0))], [], [], [], []⟩)
abbrev spec_SessionOk.l12.s : ST := ⟨[(1, .c (.o (.pbox 1 0))), (3, .c (.o (.int .i64))), (5, .c (.o (.int .i64))), (6, .c (.o (.int .i64))), (7, .c (.o (.int .i64)))], [], [⟨1, 32, [.o (.dat 89 (.prod .str (.int .i64))), .o (.dat 91 (.prod (.int .i64) (.sl 81 (.prod (.int .i64) (.prod .bool (.prod (.sl 155 (.prod (.int .i64) (.prod (.int .i64) (.prod (.int .i64) (.prod (.int .i64) (.prod (.int .i64) (.prod (.sl 182 (.int .u64)) (.sl 2 (.int .i64))))))))) (.sl 155 (.prod (.int .i64) (.prod (.int .i64) (.prod (.int .i64) (.prod (.int .i64) (.prod (.int .i64) (.prod (.sl 182 (.int .u64)) (.sl 2 (.int .i64))))))))))))))), .o (.int .i64)], false⟩], [], []⟩
def spec_SessionOk.l12.u (n : Nat) (v : spec_SessionOk.l12.s.V) (K : X → St → Prop) : Prop := spec_SessionOk.l12 n v.1.2.1 v.1.2.2.1 v.1.2.2.2.1 v.1.2.2.2.2.1 v.2.2.1.1 v.2.2.1.2.1 v.2.2.1.2.2.1 (fun y0 y1 y2 y3 y4 => K (.exit 2) ⟨[(1, .c (.pbox 1 0)), (5, .c (.int .i64 y0)), (6, .c (.int .i64 y1))], [], [(1, ⟨32, [.dat 89 (.prod .str (.int .i64)) y2, .dat 91 (.prod (.int .i64) (.sl 81 (.prod (.int .i64) (.prod .bool (.prod (.sl 155 (.prod (.int .i64) (.prod (.int .i64) (.prod (.int .i64) (.prod (.int .i64) (.prod (.int .i64) (.prod (.sl 182 (.int .u64)) (.sl 2 (.int .i64))))))))) (.sl 155 (.prod (.int .i64) (.prod (.int .i64) (.prod (.int .i64) (.prod (.int .i64) (.prod (.int .i64) (.prod (.sl 182 (.int .u64)) (.sl 2 (.int .i64)))))))))))))) y3, .int .i64 y4], false⟩)], [], []⟩) (fun y0 => K .ret ⟨[(2, .c (.bool y0))], [], [], [], []⟩)
theorem spec_SessionOk.l5_ok : ∀ n v K, spec_SessionOk.l5.u n v K → loopM C X0 n 44 5 (spec_SessionOk.l5.s.fill v) K :=
 loop_tell hX (fn := Try.f44) (c := bodyOf Try.f44) (a := loopOf Try.f44 5) (li := liOf (C.fi 44).loops 5) (by kernel_rfl) (by kernel_rfl) (of_decide_eq_true rfl) (by kernel_rfl) (by kernel_rfl) (T := spec_SessionOk.l5.s) (u := spec_SessionOk.l5.u) (fun _ _ h => h) (call := D39) (lp := fun n => noL) (D39_ok hX) (fun n => noL_ok) (fun n v K => by kernel_rfl)
theorem spec_SessionOk.l21_ok : ∀ n v K, spec_SessionOk.l21.u n v K → loopM C X0 n 44 21 (spec_SessionOk.l21.s.fill v) K :=
 loop_tell hX (fn := Try.f44) (c := bodyOf Try.f44) (a := loopOf Try.f44 21) (li := liOf (C.fi 44).loops 21) (by kernel_rfl) (by kernel_rfl) (of_decide_eq_true rfl) (by kernel_rfl) (by kernel_rfl) (T := spec_SessionOk.l21.s) (u := spec_SessionOk.l21.u) (fun _ _ h => h) (call := D39) (lp := fun n => noL) (D39_ok hX) (fun n => noL_ok) (fun n v K => by kernel_rfl)
theorem spec_SessionOk.l12_ok : ∀ n v K, spec_SessionOk.l12.u n v K → loopM C X0 n 44 12 (spec_SessionOk.l12.s.fill v) K :=
 loop_tell hX (fn := Try.f44) (c := bodyOf Try.f44) (a := loopOf Try.f44 12) (li := liOf (C.fi 44).loops 12) (by kernel_rfl) (by kernel_rfl) (of_decide_eq_true rfl) (by kernel_rfl) (by kernel_rfl) (T := spec_SessionOk.l12.s) (u := spec_SessionOk.l12.u) (fun _ _ h => h) (call := D39) (lp := fun n => orL 21 spec_SessionOk.l21.s (spec_SessionOk.l21.u n) noL) (D39_ok hX) (fun n => (orL_ok (spec_SessionOk.l21_ok hX n) noL_ok)) (fun n v K => by kernel_rfl)
theorem spec_SessionOk_ok : ∀ n v K, spec_SessionOk.u n v K → callM C X0 n 44 (fillA spec_SessionOk.a v) K :=
 call_tell hX (fn := Try.f44) (c := bodyOf Try.f44) (by kernel_rfl) (by kernel_rfl) (A := spec_SessionOk.a) (u := spec_SessionOk.u) (fun _ _ h => h) (call := D39) (lp := fun n => orL 5 spec_SessionOk.l5.s (spec_SessionOk.l5.u n) (orL 12 spec_SessionOk.l12.s (spec_SessionOk.l12.u n) noL)) (D39_ok hX) (fun n => (orL_ok (spec_SessionOk.l5_ok hX n) (orL_ok (spec_SessionOk.l12_ok hX n) noL_ok))) (fun n v K => by kernel_rfl)
def D40 (n : Nat) : CallF := orC 44 spec_SessionOk.a (spec_SessionOk.u n) (D39 n)
theorem D40_ok : ∀ n g a K, D40 n g a K → callM C X0 n g a K := fun n => orC_ok (spec_SessionOk_ok hX n) (D39_ok hX n)
abbrev impl_nameOk.a : List TS := [.c (.o .str)]
def impl_nameOk.u (n : Nat) (v : VA impl_nameOk.a) (K : RES → Prop) : Prop := impl_nameOk.c n v.1 (fun r0 => K ⟨.c (.bool r0), []⟩)
abbrev impl_nameOk.l4.s : ST := ⟨[(0, .c (.o .str)), (3, .c (.o (.int .i64)))], [], [], [], []⟩
def impl_nameOk.l4.u (n : Nat) (v : impl_nameOk.l4.s.V) (K : X → St → Prop) : Prop := impl_nameOk.l4 n v.1.1 v.1.2.1 (K (.exit 0) ⟨[], [], [], [], []⟩) (fun y0 => K .ret ⟨[(2, .c (.bool y0))], [], [], [], []⟩)
theorem impl_nameOk.l4_ok : ∀ n v K, impl_nameOk.l4.u n v K → loopM C X0 n 122 4 (impl_nameOk.l4.s.fill v) K :=
 loop_tell hX (fn := Try.f122) (c := bodyOf Try.f122) (a := loopOf Try.f122 4) (li := liOf (C.fi 122).loops 4) (by kernel_rfl) (by kernel_rfl) (of_decide_eq_true rfl) (by kernel_rfl) (by kernel_rfl) (T := impl_nameOk.l4.s) (u := impl_nameOk.l4.u) (fun _ _ h => h) (call := D40) (lp := fun n => noL) (D40_ok hX) (fun n => noL_ok) (fun n v K => by kernel_rfl)
theorem impl_nameOk_ok : ∀ n v K, impl_nameOk.u n v K → callM C X0 n 122 (fillA impl_nameOk.a v) K :=
 call_tell hX (fn := Try.f122) (c := bodyOf Try.f122) (by kernel_rfl) (by kernel_rfl) (A := impl_nameOk.a) (u := impl_nameOk.u) (fun _ _ h => h) (call := D40) (lp := fun n => orL 4 impl_nameOk.l4.s (impl_nameOk.l4.u n) noL) (D40_ok hX) (fun n => (orL_ok (impl_nameOk.l4_ok hX n) noL_ok)) (fun n v K => by kernel_rfl)
def D41 (n : Nat) : CallF := orC 122 impl_nameOk.a (impl_nameOk.u n) (D40 n)
theorem D41_ok : ∀ n g a K, D41 n g a K → callM C X0 n g a K := fun n => orC_ok (impl_nameOk_ok hX n) (D40_ok hX n)
abbrev impl_inside.a : List TS := [.c (.o (.int .i64)), .c (.o (.int .i64)), .c (.o (.int .i64))]
def impl_inside.u (n : Nat) (v : VA impl_inside.a) (K : RES → Prop) : Prop := impl_inside.c n v.1 v.2.1 v.2.2.1 (fun r0 => K ⟨.c (.bool r0), []⟩)
theorem impl_inside_ok : ∀ n v K, impl_inside.u n v K → callM C X0 n 106 (fillA impl_inside.a v) K :=
 call_tell hX (fn := Try.f106) (c := bodyOf Try.f106) (by kernel_rfl) (by kernel_rfl) (A := impl_inside.a) (u := impl_inside.u) (fun _ _ h => h) (call := D41) (lp := fun n => noL) (D41_ok hX) (fun n => noL_ok) (fun n v K => by kernel_rfl)
def D42 (n : Nat) : CallF := orC 106 impl_inside.a (impl_inside.u n) (D41 n)
theorem D42_ok : ∀ n g a K, D42 n g a K → callM C X0 n g a K := fun n => orC_ok (impl_inside_ok hX n) (D41_ok hX n)
abbrev impl_declared_1.a : List TS := [.a [.o .str, .o (.int .i64)], .c (.o (.pdat 9 .str 0))]
def impl_declared_1.u (n : Nat) (v : VA impl_declared_1.a) (K : RES → Prop) : Prop := impl_declared_1.c n v.1.1 v.1.2.1 v.2.1 (fun r0 => K ⟨.c (.bool r0), []⟩)
theorem impl_declared_1_ok : ∀ n v K, impl_declared_1.u n v K → callM C X0 n 163 (fillA impl_declared_1.a v) K :=
 call_tell hX (fn := Try.f163) (c := bodyOf Try.f163) (by kernel_rfl) (by kernel_rfl) (A := impl_declared_1.a) (u := impl_declared_1.u) (fun _ _ h => h) (call := D42) (lp := fun n => noL) (D42_ok hX) (fun n => noL_ok) (fun n v K => by kernel_rfl)
def D43 (n : Nat) : CallF := orC 163 impl_declared_1.a (impl_declared_1.u n) (D42 n)
theorem D43_ok : ∀ n g a K, D43 n g a K → callM C X0 n g a K := fun n => orC_ok (impl_declared_1_ok hX n) (D42_ok hX n)
abbrev slices_IndexFunc_Decl__impl_declared_1.a : List TS := [.c (.o (.dat 89 (.prod .str (.int .i64)))), .c (.fn 163 [(false, 1)] 0 [.pdat 9 .str 0])]
def slices_IndexFunc_Decl__impl_declared_1.u (n : Nat) (v : VA slices_IndexFunc_Decl__impl_declared_1.a) (K : RES → Prop) : Prop := slices_IndexFunc_Decl__impl_declared_1.c n v.1 v.2.1.1 (fun r0 => K ⟨.c (.int .i64 r0), []⟩)
abbrev slices_IndexFunc_Decl__impl_declared_1.l2.s : ST := ⟨[(0, .c (.o (.dat 89 (.prod .str (.int .i64))))), (1, .c (.fn 163 [(false, 1)] 0 [.pdat 9 .str 0])), (7, .c (.o (.int .i64))), (8, .c (.o (.int .i64)))], [], [], [], []⟩
def slices_IndexFunc_Decl__impl_declared_1.l2.u (n : Nat) (v : slices_IndexFunc_Decl__impl_declared_1.l2.s.V) (K : X → St → Prop) : Prop := slices_IndexFunc_Decl__impl_declared_1.l2 n v.1.1 v.1.2.1.1 v.1.2.2.1 v.1.2.2.2.1 (K (.exit 0) ⟨[], [], [], [], []⟩) (fun y0 => K .ret ⟨[(4, .c (.int .i64 y0))], [], [], [], []⟩)
theorem slices_IndexFunc_Decl__impl_declared_1.l2_ok : ∀ n v K, slices_IndexFunc_Decl__impl_declared_1.l2.u n v K → loopM C X0 n 162 2 (slices_IndexFunc_Decl__impl_declared_1.l2.s.fill v) K :=
 loop_tell hX (fn := Try.f162) (c := bodyOf Try.f162) (a := loopOf Try.f162 2) (li := liOf (C.fi 162).loops 2) (by kernel_rfl) (by kernel_rfl) (of_decide_eq_true rfl) (by kernel_rfl) (by kernel_rfl) (T := slices_IndexFunc_Decl__impl_declared_1.l2.s) (u := slices_IndexFunc_Decl__impl_declared_1.l2.u) (fun _ _ h => h) (call := D43) (lp := fun n => noL) (D43_ok hX) (fun n => noL_ok) (fun n v K => by kernel_rfl)
theorem slices_IndexFunc_Decl__impl_declared_1_ok : ∀ n v K, slices_IndexFunc_Decl__impl_declared_1.u n v K → callM C X0 n 162 (fillA slices_IndexFunc_Decl__impl_declared_1.a v) K :=
 call_tell hX (fn := Try.f162) (c := bodyOf Try.f162) (by kernel_rfl) (by kernel_rfl) (A := slices_IndexFunc_Decl__impl_declared_1.a) (u := slices_IndexFunc_Decl__impl_declared_1.u) (fun _ _ h => h) (call := D43) (lp := fun n => orL 2 slices_IndexFunc_Decl__impl_declared_1.l2.s (slices_IndexFunc_Decl__impl_declared_1.l2.u n) noL) (D43_ok hX) (fun n => (orL_ok (slices_IndexFunc_Decl__impl_declared_1.l2_ok hX n) noL_ok)) (fun n v K => by kernel_rfl)
def D44 (n : Nat) : CallF := orC 162 slices_IndexFunc_Decl__impl_declared_1.a (slices_IndexFunc_Decl__impl_declared_1.u n) (D43 n)
theorem D44_ok : ∀ n g a K, D44 n g a K → callM C X0 n g a K := fun n => orC_ok (slices_IndexFunc_Decl__impl_declared_1_ok hX n) (D43_ok hX n)
abbrev impl_declared.a : List TS := [.c (.o (.dat 89 (.prod .str (.int .i64)))), .c (.o .str)]
def impl_declared.u (n : Nat) (v : VA impl_declared.a) (K : RES → Prop) : Prop := impl_declared.c n v.1 v.2.1 (fun r0 => K ⟨.c (.int .i64 r0), []⟩)
theorem impl_declared_ok : ∀ n v K, impl_declared.u n v K → callM C X0 n 123 (fillA impl_declared.a v) K :=
 call_tell hX (fn := Try.f123) (c := bodyOf Try.f123) (by kernel_rfl) (by kernel_rfl) (A := impl_declared.a) (u := impl_declared.u) (fun _ _ h => h) (call := D44) (lp := fun n => noL) (D44_ok hX) (fun n => noL_ok) (fun n v K => by kernel_rfl)
def D45 (n : Nat) : CallF := orC 123 impl_declared.a (impl_declared.u n) (D44 n)
theorem D45_ok : ∀ n g a K, D45 n g a K → callM C X0 n g a K := fun n => orC_ok (impl_declared_ok hX n) (D44_ok hX n)
abbrev impl_DeclsOk.a : List TS := [.c (.o (.dat 89 (.prod .str (.int .i64))))]
def impl_DeclsOk.u (n : Nat) (v : VA impl_DeclsOk.a) (K : RES → Prop) : Prop := impl_DeclsOk.c n v.1 (fun r0 => K ⟨.c (.bool r0), []⟩)
abbrev impl_DeclsOk.l5.s : ST := ⟨[(0, .c (.o (.dat 89 (.prod .str (.int .i64))))), (3, .c (.o (.int .i64))), (9, .c (.o (.dat 89 (.prod .str (.int .i64))))), (10, .c (.o (.int .i64))), (11, .c (.o (.int .i64)))], [], [], [], []⟩
def impl_DeclsOk.l5.u (n : Nat) (v : impl_DeclsOk.l5.s.V) (K : X → St → Prop) : Prop := impl_DeclsOk.l5 n v.1.1 v.1.2.2.1 v.1.2.2.2.1 v.1.2.1 v.1.2.2.2.2.1 (fun y0 => K (.exit 0) ⟨[(3, .c (.int .i64 y0))], [], [], [], []⟩) (fun y0 => K .ret ⟨[(2, .c (.bool y0))], [], [], [], []⟩)
theorem impl_DeclsOk.l5_ok : ∀ n v K, impl_DeclsOk.l5.u n v K → loopM C X0 n 69 5 (impl_DeclsOk.l5.s.fill v) K :=
 loop_tell hX (fn := Try.f69) (c := bodyOf Try.f69) (a := loopOf Try.f69 5) (li := liOf (C.fi 69).loops 5) (by kernel_rfl) (by kernel_rfl) (of_decide_eq_true rfl) (by kernel_rfl) (by kernel_rfl) (T := impl_DeclsOk.l5.s) (u := impl_DeclsOk.l5.u) (fun _ _ h => h) (call := D45) (lp := fun n => noL) (D45_ok hX) (fun n => noL_ok) (fun n v K => by kernel_rfl)
theorem impl_DeclsOk_ok : ∀ n v K, impl_DeclsOk.u n v K → callM C X0 n 69 (fillA impl_DeclsOk.a v) K :=
 call_tell hX (fn := Try.f69) (c := bodyOf Try.f69) (by kernel_rfl) (by kernel_rfl) (A := impl_DeclsOk.a) (u := impl_DeclsOk.u) (fun _ _ h => h) (call := D45) (lp := fun n => orL 5 impl_DeclsOk.l5.s (impl_DeclsOk.l5.u n) noL) (D45_ok hX) (fun n => (orL_ok (impl_DeclsOk.l5_ok hX n) noL_ok)) (fun n v K => by kernel_rfl)
def D46 (n : Nat) : CallF := orC 69 impl_DeclsOk.a (impl_DeclsOk.u n) (D45 n)
theorem D46_ok : ∀ n g a K, D46 n g a K → callM C X0 n g a K := fun n => orC_ok (impl_DeclsOk_ok hX n) (D45_ok hX n)
abbrev impl_Session_end.a : List TS := [.c (.o (.pdat 32 (.prod (.sl 89 (.prod .str (.int .i64))) (.prod (.sl 91 (.prod (.int .i64) (.sl 81 (.prod (.int .i64) (.prod .bool (.prod (.sl 155 (.prod (.int .i64) (.prod (.int .i64) (.prod (.int .i64) (.prod (.int .i64) (.prod (.int .i64) (.prod (.sl 182 (.int .u64)) (.sl 2 (.int .i64))))))))) (.sl 155 (.prod (.int .i64) (.prod (.int .i64) (.prod (.int .i64) (.prod (.int .i64) (.prod (.int .i64) (.prod (.sl 182 (.int .u64)) (.sl 2 (.int .i64))))))))))))))) (.int .i64))) 0)), .c (.o (.int .i64))]
def impl_Session_end.u (n : Nat) (v : VA impl_Session_end.a) (K : RES → Prop) : Prop := impl_Session_end.c n v.1 v.2.1 (fun r0 => K ⟨.c (.int .i64 r0), []⟩)
theorem impl_Session_end_ok : ∀ n v K, impl_Session_end.u n v K → callM C X0 n 107 (fillA impl_Session_end.a v) K :=
 call_tell hX (fn := Try.f107) (c := bodyOf Try.f107) (by kernel_rfl) (by kernel_rfl) (A := impl_Session_end.a) (u := impl_Session_end.u) (fun _ _ h => h) (call := D46) (lp := fun n => noL) (D46_ok hX) (fun n => noL_ok) (fun n v K => by kernel_rfl)
def D47 (n : Nat) : CallF := orC 107 impl_Session_end.a (impl_Session_end.u n) (D46 n)
theorem D47_ok : ∀ n g a K, D47 n g a K → callM C X0 n g a K := fun n => orC_ok (impl_Session_end_ok hX n) (D46_ok hX n)
abbrev impl_wordsFor.a : List TS := [.c (.o (.int .i64))]
def impl_wordsFor.u (n : Nat) (v : VA impl_wordsFor.a) (K : RES → Prop) : Prop := impl_wordsFor.c n v.1 (fun r0 => K ⟨.c (.int .i64 r0), []⟩)
theorem impl_wordsFor_ok : ∀ n v K, impl_wordsFor.u n v K → callM C X0 n 213 (fillA impl_wordsFor.a v) K :=
 call_tell hX (fn := Try.f213) (c := bodyOf Try.f213) (by kernel_rfl) (by kernel_rfl) (A := impl_wordsFor.a) (u := impl_wordsFor.u) (fun _ _ h => h) (call := D47) (lp := fun n => noL) (D47_ok hX) (fun n => noL_ok) (fun n v K => by kernel_rfl)
def D48 (n : Nat) : CallF := orC 213 impl_wordsFor.a (impl_wordsFor.u n) (D47 n)
theorem D48_ok : ∀ n g a K, D48 n g a K → callM C X0 n g a K := fun n => orC_ok (impl_wordsFor_ok hX n) (D47_ok hX n)
abbrev impl_BitsOk.a : List TS := [.a [.o (.int .i64), .o (.dat 182 (.int .u64))]]
def impl_BitsOk.u (n : Nat) (v : VA impl_BitsOk.a) (K : RES → Prop) : Prop := impl_BitsOk.c n v.1.1 v.1.2.1 (fun r0 => K ⟨.c (.bool r0), []⟩)
theorem impl_BitsOk_ok : ∀ n v K, impl_BitsOk.u n v K → callM C X0 n 173 (fillA impl_BitsOk.a v) K :=
 call_tell hX (fn := Try.f173) (c := bodyOf Try.f173) (by kernel_rfl) (by kernel_rfl) (A := impl_BitsOk.a) (u := impl_BitsOk.u) (fun _ _ h => h) (call := D48) (lp := fun n => noL) (D48_ok hX) (fun n => noL_ok) (fun n v K => by kernel_rfl)
def D49 (n : Nat) : CallF := orC 173 impl_BitsOk.a (impl_BitsOk.u n) (D48 n)
theorem D49_ok : ∀ n g a K, D49 n g a K → callM C X0 n g a K := fun n => orC_ok (impl_BitsOk_ok hX n) (D48_ok hX n)
abbrev impl_TNode_width.a : List TS := [.c (.o (.pdat 155 (.prod (.int .i64) (.prod (.int .i64) (.prod (.int .i64) (.prod (.int .i64) (.prod (.int .i64) (.prod (.sl 182 (.int .u64)) (.sl 2 (.int .i64)))))))) 0)), .c (.o (.dat 89 (.prod .str (.int .i64)))), .c (.o (.dat 2 (.int .i64)))]
def impl_TNode_width.u (n : Nat) (v : VA impl_TNode_width.a) (K : RES → Prop) : Prop := impl_TNode_width.c n v.1 v.2.1 v.2.2.1 (fun r0 => K ⟨.c (.int .i64 r0), []⟩)
abbrev impl_TNode_width.l11.s : ST := ⟨[(8, .c (.o (.int .i64))), (80, .c (.o (.dat 2 (.int .i64)))), (81, .c (.o (.int .i64))), (82, .c (.o (.int .i64)))], [], [], [], []⟩
def impl_TNode_width.l11.u (n : Nat) (v : impl_TNode_width.l11.s.V) (K : X → St → Prop) : Prop := impl_TNode_width.l11 n v.1.2.1 v.1.2.2.1 v.1.1 v.1.2.2.2.1 (fun y0 => K (.exit 1) ⟨[(8, .c (.int .i64 y0))], [], [], [], []⟩)
abbrev impl_TNode_width.q21.s : ST := ⟨[(0, .c (.o (.pdat 155 (.prod (.int .i64) (.prod (.int .i64) (.prod (.int .i64) (.prod (.int .i64) (.prod (.int .i64) (.prod (.sl 182 (.int .u64)) (.sl 2 (.int .i64)))))))) 0))), (7, .c (.o (.int .i64))), (137, .c (.o .bool))], [], [], [], []⟩
def impl_TNode_width.q21.u (n : Nat) (v : impl_TNode_width.q21.s.V) (K : X → St → Prop) : Prop := impl_TNode_width.q21 n v.1.1 v.1.2.1 v.1.2.2.1 (fun y0 => K .ret ⟨[(6, .c (.int .i64 y0))], [], [], [], []⟩) (K .normal ⟨[], [], [], [], []⟩)
abbrev impl_TNode_width.q9.s : ST := ⟨[(0, .c (.o (.pdat 155 (.prod (.int .i64) (.prod (.int .i64) (.prod (.int .i64) (.prod (.int .i64) (.prod (.int .i64) (.prod (.sl 182 (.int .u64)) (.sl 2 (.int .i64)))))))) 0))), (2, .c (.o (.dat 2 (.int .i64)))), (7, .c (.o (.int .i64))), (69, .c (.o .bool))], [], [], [], []⟩
def impl_TNode_width.q9.u (n : Nat) (v : impl_TNode_width.q9.s.V) (K : X → St → Prop) : Prop := impl_TNode_width.q9 n v.1.1 v.1.2.1 v.1.2.2.1 v.1.2.2.2.1 (fun y0 => K .ret ⟨[(6, .c (.int .i64 y0))], [], [], [], []⟩) (K .normal ⟨[], [], [], [], []⟩)
abbrev impl_TNode_width.q5.s : ST := ⟨[(0, .c (.o (.pdat 155 (.prod (.int .i64) (.prod (.int .i64) (.prod (.int .i64) (.prod (.int .i64) (.prod (.int .i64) (.prod (.sl 182 (.int .u64)) (.sl 2 (.int .i64)))))))) 0))), (1, .c (.o (.dat 89 (.prod .str (.int .i64))))), (2, .c (.o (.dat 2 (.int .i64)))), (7, .c (.o (.int .i64))), (17, .c (.o .bool))], [], [], [], []⟩
def impl_TNode_width.q5.u (n : Nat) (v : impl_TNode_width.q5.s.V) (K : X → St → Prop) : Prop := impl_TNode_width.q5 n v.1.1 v.1.2.1 v.1.2.2.1 v.1.2.2.2.1 v.1.2.2.2.2.1 (fun y0 => K .ret ⟨[(6, .c (.int .i64 y0))], [], [], [], []⟩) (K .normal ⟨[], [], [], [], []⟩)
theorem impl_TNode_width.l11_ok : ∀ n v K, impl_TNode_width.l11.u n v K → loopM C X0 n 191 11 (impl_TNode_width.l11.s.fill v) K :=
 loop_tell hX (fn := Try.f191) (c := bodyOf Try.f191) (a := loopOf Try.f191 11) (li := liOf (C.fi 191).loops 11) (by kernel_rfl) (by kernel_rfl) (of_decide_eq_true rfl) (by kernel_rfl) (by kernel_rfl) (T := impl_TNode_width.l11.s) (u := impl_TNode_width.l11.u) (fun _ _ h => h) (call := D49) (lp := fun n => noL) (D49_ok hX) (fun n => noL_ok) (fun n v K => by kernel_rfl)
theorem impl_TNode_width.q21_ok : ∀ n v K, impl_TNode_width.q21.u n v K → loopM C X0 n 191 1000021 (impl_TNode_width.q21.s.fill v) K :=
 cut_tell hX (fn := Try.f191) (c := bodyOf Try.f191) (a := cutOf Try.f191 21) (li := liOf (C.fi 191).loops 1000021) (by kernel_rfl) (by kernel_rfl) (of_decide_eq_true rfl) (by kernel_rfl) (by kernel_rfl) (T := impl_TNode_width.q21.s) (u := impl_TNode_width.q21.u) (fun _ _ h => h) (call := D49) (lp := fun n => noL) (D49_ok hX) (fun n => noL_ok) (fun n v K => by kernel_rfl)
theorem impl_TNode_width.q9_ok : ∀ n v K, impl_TNode_width.q9.u n v K → loopM C X0 n 191 1000009 (impl_TNode_width.q9.s.fill v) K :=
 cut_tell hX (fn := Try.f191) (c := bodyOf Try.f191) (a := cutOf Try.f191 9) (li := liOf (C.fi 191).loops 1000009) (by kernel_rfl) (by kernel_rfl) (of_decide_eq_true rfl) (by kernel_rfl) (by kernel_rfl) (T := impl_TNode_width.q9.s) (u := impl_TNode_width.q9.u) (fun _ _ h => h) (call := D49) (lp := fun n => orL 11 impl_TNode_width.l11.s (impl_TNode_width.l11.u n) (orL 1000021 impl_TNode_width.q21.s (impl_TNode_width.q21.u n) noL)) (D49_ok hX) (fun n => (orL_ok (impl_TNode_width.l11_ok hX n) (orL_ok (impl_TNode_width.q21_ok hX n) noL_ok))) (fun n v K => by kernel_rfl)
theorem impl_TNode_width.q5_ok : ∀ n v K, impl_TNode_width.q5.u n v K → loopM C X0 n 191 1000005 (impl_TNode_width.q5.s.fill v) K :=
 cut_tell hX (fn := Try.f191) (c := bodyOf Try.f191) (a := cutOf Try.f191 5) (li := liOf (C.fi 191).loops 1000005) (by kernel_rfl) (by kernel_rfl) (of_decide_eq_true rfl) (by kernel_rfl) (by kernel_rfl) (T := impl_TNode_width.q5.s) (u := impl_TNode_width.q5.u) (fun _ _ h => h) (call := D49) (lp := fun n => orL 1000009 impl_TNode_width.q9.s (impl_TNode_width.q9.u n) noL) (D49_ok hX) (fun n => (orL_ok (impl_TNode_width.q9_ok hX n) noL_ok)) (fun n v K => by kernel_rfl)
theorem impl_TNode_width_ok : ∀ n v K, impl_TNode_width.u n v K → callM C X0 n 191 (fillA impl_TNode_width.a v) K :=
 call_tell hX (fn := Try.f191) (c := bodyOf Try.f191) (by kernel_rfl) (by kernel_rfl) (A := impl_TNode_width.a) (u := impl_TNode_width.u) (fun _ _ h => h) (call := D49) (lp := fun n => orL 1000005 impl_TNode_width.q5.s (impl_TNode_width.q5.u n) noL) (D49_ok hX) (fun n => (orL_ok (impl_TNode_width.q5_ok hX n) noL_ok)) (fun n v K => by kernel_rfl)
def D50 (n : Nat) : CallF := orC 191 impl_TNode_width.a (impl_TNode_width.u n) (D49 n)
theorem D50_ok : ∀ n g a K, D50 n g a K → callM C X0 n g a K := fun n => orC_ok (impl_TNode_width_ok hX n) (D49_ok hX n)
abbrev impl_TNode_plain.a : List TS := [.c (.o (.pdat 155 (.prod (.int .i64) (.prod (.int .i64) (.prod (.int .i64) (.prod (.int .i64) (.prod (.int .i64) (.prod (.sl 182 (.int .u64)) (.sl 2 (.int .i64)))))))) 0))]
def impl_TNode_plain.u (n : Nat) (v : VA impl_TNode_plain.a) (K : RES → Prop) : Prop := impl_TNode_plain.c n v.1 (fun r0 => K ⟨.c (.bool r0), []⟩)
abbrev impl_TNode_plain.q3.s : ST := ⟨[(0, .c (.o (.pdat 155 (.prod (.int .i64) (.prod (.int .i64) (.prod (.int .i64) (.prod (.int .i64) (.prod (.int .i64) (.prod (.sl 182 (.int .u64)) (.sl 2 (.int .i64)))))))) 0))), (52, .c (.o .bool))], [], [], [], []⟩
def impl_TNode_plain.q3.u (n : Nat) (v : impl_TNode_plain.q3.s.V) (K : X → St → Prop) : Prop := impl_TNode_plain.q3 n v.1.1 v.1.2.1 (fun y0 => K .ret ⟨[(2, .c (.bool y0))], [], [], [], []⟩) (fun y0 => K .normal ⟨[(0, .c (.pdat 155 (.prod (.int .i64) (.prod (.int .i64) (.prod (.int .i64) (.prod (.int .i64) (.prod (.int .i64) (.prod (.sl 182 (.int .u64)) (.sl 2 (.int .i64)))))))) y0 0))], [], [], [], []⟩)
abbrev impl_TNode_plain.q2.s : ST := ⟨[(0, .c (.o (.pdat 155 (.prod (.int .i64) (.prod (.int .i64) (.prod (.int .i64) (.prod (.int .i64) (.prod (.int .i64) (.prod (.sl 182 (.int .u64)) (.sl 2 (.int .i64)))))))) 0))), (3, .c (.o .bool))], [], [], [], []⟩
def impl_TNode_plain.q2.u (n : Nat) (v : impl_TNode_plain.q2.s.V) (K : X → St → Prop) : Prop := impl_TNode_plain.q2 n v.1.1 v.1.2.1 (fun y0 => K .ret ⟨[(2, .c (.bool y0))], [], [], [], []⟩)
theorem impl_TNode_plain.q3_ok : ∀ n v K, impl_TNode_plain.q3.u n v K → loopM C X0 n 192 1000003 (impl_TNode_plain.q3.s.fill v) K :=
 cut_tell hX (fn := Try.f192) (c := bodyOf Try.f192) (a := cutOf Try.f192 3) (li := liOf (C.fi 192).loops 1000003) (by kernel_rfl) (by kernel_rfl) (of_decide_eq_true rfl) (by kernel_rfl) (by kernel_rfl) (T := impl_TNode_plain.q3.s) (u := impl_TNode_plain.q3.u) (fun _ _ h => h) (call := D50) (lp := fun n => noL) (D50_ok hX) (fun n => noL_ok) (fun n v K => by kernel_rfl)
theorem impl_TNode_plain.q2_ok : ∀ n v K, impl_TNode_plain.q2.u n v K → loopM C X0 n 192 1000002 (impl_TNode_plain.q2.s.fill v) K :=
 cut_tell hX (fn := Try.f192) (c := bodyOf Try.f192) (a := cutOf Try.f192 2) (li := liOf (C.fi 192).loops 1000002) (by kernel_rfl) (by kernel_rfl) (of_decide_eq_true rfl) (by kernel_rfl) (by kernel_rfl) (T := impl_TNode_plain.q2.s) (u := impl_TNode_plain.q2.u) (fun _ _ h => h) (call := D50) (lp := fun n => orL 1000003 impl_TNode_plain.q3.s (impl_TNode_plain.q3.u n) noL) (D50_ok hX) (fun n => (orL_ok (impl_TNode_plain.q3_ok hX n) noL_ok)) (fun n v K => by kernel_rfl)
theorem impl_TNode_plain_ok : ∀ n v K, impl_TNode_plain.u n v K → callM C X0 n 192 (fillA impl_TNode_plain.a v) K :=
 call_tell hX (fn := Try.f192) (c := bodyOf Try.f192) (by kernel_rfl) (by kernel_rfl) (A := impl_TNode_plain.a) (u := impl_TNode_plain.u) (fun _ _ h => h) (call := D50) (lp := fun n => orL 1000002 impl_TNode_plain.q2.s (impl_TNode_plain.q2.u n) noL) (D50_ok hX) (fun n => (orL_ok (impl_TNode_plain.q2_ok hX n) noL_ok)) (fun n v K => by kernel_rfl)
def D51 (n : Nat) : CallF := orC 192 impl_TNode_plain.a (impl_TNode_plain.u n) (D50 n)
theorem D51_ok : ∀ n g a K, D51 n g a K → callM C X0 n g a K := fun n => orC_ok (impl_TNode_plain_ok hX n) (D50_ok hX n)
abbrev slices_Index_bool.a : List TS := [.c (.o (.dat 4 .bool)), .c (.o .bool)]
def slices_Index_bool.u (n : Nat) (v : VA slices_Index_bool.a) (K : RES → Prop) : Prop := slices_Index_bool.c n v.1 v.2.1 (fun r0 => K ⟨.c (.int .i64 r0), []⟩)
abbrev slices_Index_bool.l2.s : ST := ⟨[(0, .c (.o (.dat 4 .bool))), (1, .c (.o .bool)), (7, .c (.o (.int .i64))), (8, .c (.o (.int .i64)))], [], [], [], []⟩
def slices_Index_bool.l2.u (n : Nat) (v : slices_Index_bool.l2.s.V) (K : X → St → Prop) : Prop := slices_Index_bool.l2 n v.1.1 v.1.2.1 v.1.2.2.1 v.1.2.2.2.1 (K (.exit 0) ⟨[], [], [], [], []⟩) (fun y0 => K .ret ⟨[(4, .c (.int .i64 y0))], [], [], [], []⟩)
theorem slices_Index_bool.l2_ok : ∀ n v K, slices_Index_bool.l2.u n v K → loopM C X0 n 229 2 (slices_Index_bool.l2.s.fill v) K :=
 loop_tell hX (fn := Try.f229) (c := bodyOf Try.f229) (a := loopOf Try.f229 2) (li := liOf (C.fi 229).loops 2) (by kernel_rfl) (by kernel_rfl) (of_decide_eq_true rfl) (by kernel_rfl) (by kernel_rfl) (T := slices_Index_bool.l2.s) (u := slices_Index_bool.l2.u) (fun _ _ h => h) (call := D51) (lp := fun n => noL) (D51_ok hX) (fun n => noL_ok) (fun n v K => by kernel_rfl)
theorem slices_Index_bool_ok : ∀ n v K, slices_Index_bool.u n v K → callM C X0 n 229 (fillA slices_Index_bool.a v) K :=
 call_tell hX (fn := Try.f229) (c := bodyOf Try.f229) (by kernel_rfl) (by kernel_rfl) (A := slices_Index_bool.a) (u := slices_Index_bool.u) (fun _ _ h => h) (call := D51) (lp := fun n => orL 2 slices_Index_bool.l2.s (slices_Index_bool.l2.u n) noL) (D51_ok hX) (fun n => (orL_ok (slices_Index_bool.l2_ok hX n) noL_ok)) (fun n v K => by kernel_rfl)
def D52 (n : Nat) : CallF := orC 229 slices_Index_bool.a (slices_Index_bool.u n) (D51 n)
theorem D52_ok : ∀ n g a K, D52 n g a K → callM C X0 n g a K := fun n => orC_ok (slices_Index_bool_ok hX n) (D51_ok hX n)
abbrev slices_Contains_bool.a : List TS := [.c (.o (.dat 4 .bool)), .c (.o .bool)]
def slices_Contains_bool.u (n : Nat) (v : VA slices_Contains_bool.a) (K : RES → Prop) : Prop := slices_Contains_bool.c n v.1 v.2.1 (fun r0 => K ⟨.c (.bool r0), []⟩)
theorem slices_Contains_bool_ok : ∀ n v K, slices_Contains_bool.u n v K → callM C X0 n 193 (fillA slices_Contains_bool.a v) K :=
 call_tell hX (fn := Try.f193) (c := bodyOf Try.f193) (by kernel_rfl) (by kernel_rfl) (A := slices_Contains_bool.a) (u := slices_Contains_bool.u) (fun _ _ h => h) (call := D52) (lp := fun n => noL) (D52_ok hX) (fun n => noL_ok) (fun n v K => by kernel_rfl)
def D53 (n : Nat) : CallF := orC 193 slices_Contains_bool.a (slices_Contains_bool.u n) (D52 n)
theorem D53_ok : ∀ n g a K, D53 n g a K → callM C X0 n g a K := fun n => orC_ok (slices_Contains_bool_ok hX n) (D52_ok hX n)
abbrev impl_widths.a : List TS := [.c (.o (.dat 89 (.prod .str (.int .i64)))), .a [.o (.dat 155 (.prod (.int .i64) (.prod (.int .i64) (.prod (.int .i64) (.prod (.int .i64) (.prod (.int .i64) (.prod (.sl 182 (.int .u64)) (.sl 2 (.int .i64)))))))))]]
def impl_widths.u (n : Nat) (v : VA impl_widths.a) (K : RES → Prop) : Prop := impl_widths.c n v.1 v.2.1.1 (fun r0 r1 => K ⟨.tup [.c (.row ⟨2, .int .i64, r0, 99, none⟩), .c (.bool r1)], []⟩)
abbrev impl_widths.l13.s : ST := ⟨[(0, .c (.o (.dat 89 (.prod .str (.int .i64))))), (3, .c (.o (.pbox 3 0))), (6, .c (.o (.int .i64))), (7, .c (.o (.own 768))), (8, .c (.o (.own 832))), (9, .c (.o (.int .i64))), (10, .c (.o (.pdat 155 (.prod (.int .i64) (.prod (.int .i64) (.prod (.int .i64) (.prod (.int .i64) (.prod (.int .i64) (.prod (.sl 182 (.int .u64)) (.sl 2 (.int .i64)))))))) 0))), (11, .c (.o (.own 1536))), (29, .c (.o (.int .i64))), (30, .c (.o (.int .i64))), (52, .c (.o (.dat 2 (.int .i64)))), (53, .c (.o (.int .i64))), (54, .c (.o (.int .i64)))], [⟨768, 2, .int .i64, 99⟩, ⟨832, 4, .bool, 99⟩, ⟨1536, 2, .int .i64, 99⟩], [⟨3, 79, [.o (.dat 155 (.prod (.int .i64) (.prod (.int .i64) (.prod (.int .i64) (.prod (.int .i64) (.prod (.int .i64) (.prod (.sl 182 (.int .u64)) (.sl 2 (.int .i64)))))))))], false⟩], [], []⟩
def impl_widths.l13.u (n : Nat) (v : impl_widths.l13.s.V) (K : X → St → Prop) : Prop := impl_widths.l13 n v.1.1 v.1.2.2.1 v.1.2.2.2.2.2.1 v.1.2.2.2.2.2.2.1 v.1.2.2.2.2.2.2.2.2.1 v.1.2.2.2.2.2.2.2.2.2.1 v.1.2.2.2.2.2.2.2.2.2.2.1 v.1.2.2.2.2.2.2.2.2.2.2.2.1 v.2.1.1 v.2.2.1.1 v.1.2.2.2.2.2.2.2.2.2.2.2.2.1 v.2.1.2.1 v.2.1.2.2.1 (fun y0 y1 y2 y3 y4 y5 y6 y7 y8 y9 => K (.exit 2) ⟨[(0, .c (.dat 89 (.prod .str (.int .i64)) y0)), (3, .c (.pbox 3 0)), (6, .c (.int .i64 y1)), (7, .c (.own 768)), (8, .c (.own 832)), (9, .c (.int .i64 y2)), (10, .c (.pdat 155 (.prod (.int .i64) (.prod (.int .i64) (.prod (.int .i64) (.prod (.int .i64) (.prod (.int .i64) (.prod (.sl 182 (.int .u64)) (.sl 2 (.int .i64)))))))) y3 0)), (11, .c (.own 1536)), (29, .c (.int .i64 y4)), (30, .c (.int .i64 y5))], [(768, ⟨2, .int .i64, y6, 99, none⟩), (832, ⟨4, .bool, y7, 99, none⟩), (1536, ⟨2, .int .i64, y8, 99, none⟩)], [(3, ⟨79, [.dat 155 (.prod (.int .i64) (.prod (.int .i64) (.prod (.int .i64) (.prod (.int .i64) (.prod (.int .i64) (.prod (.sl 182 (.int .u64)) (.sl 2 (.int .i64)))))))) y9], false⟩)], [], []⟩) (fun y0 y1 => K .ret ⟨[(4, .c (.own 128)), (5, .c (.bool y0))], [(128, ⟨2, .int .i64, y1, 99, none⟩)], [], [], []⟩)
abbrev impl_widths.l6.s : ST := ⟨[(0, .c (.o (.dat 89 (.prod .str (.int .i64))))), (3, .c (.o (.pbox 3 0))), (6, .c (.o (.int .i64))), (7, .c (.o (.own 768))), (8, .c (.o (.own 832))), (29, .c (.o (.int .i64))), (30, .c (.o (.int .i64)))], [⟨768, 2, .int .i64, 99⟩, ⟨832, 4, .bool, 99⟩], [⟨3, 79, [.o (.dat 155 (.prod (.int .i64) (.prod (.int .i64) (.prod (.int .i64) (.prod (.int .i64) (.prod (.int .i64) (.prod (.sl 182 (.int .u64)) (.sl 2 (.int .i64)))))))))], false⟩], [], []⟩
def impl_widths.l6.u (n : Nat) (v : impl_widths.l6.s.V) (K : X → St → Prop) : Prop := impl_widths.l6 n v.1.1 v.1.2.2.1 v.1.2.2.2.2.2.1 v.1.2.2.2.2.2.2.1 v.2.1.1 v.2.1.2.1 v.2.2.1.1 (fun y0 y1 y2 => K (.exit 0) ⟨[(6, .c (.int .i64 y0)), (7, .c (.own 768)), (8, .c (.own 832))], [(768, ⟨2, .int .i64, y1, 99, none⟩), (832, ⟨4, .bool, y2, 99, none⟩)], [], [], []⟩) (fun y0 y1 => K .ret ⟨[(4, .c (.own 128)), (5, .c (.bool y0))], [(128, ⟨2, .int .i64, y1, 99, none⟩)], [], [], []⟩)
theorem impl_widths.l13_ok : ∀ n v K, impl_widths.l13.u n v K → loopM C X0 n 164 13 (impl_widths.l13.s.fill v) K :=
 loop_tell hX (fn := Try.f164) (c := bodyOf Try.f164) (a := loopOf Try.f164 13) (li := liOf (C.fi 164).loops 13) (by kernel_rfl) (by kernel_rfl) (of_decide_eq_true rfl) (by kernel_rfl) (by kernel_rfl) (T := impl_widths.l13.s) (u := impl_widths.l13.u) (fun _ _ h => h) (call := D53) (lp := fun n => noL) (D53_ok hX) (fun n => noL_ok) (fun n v K => by kernel_rfl)
theorem impl_widths.l6_ok : ∀ n v K, impl_widths.l6.u n v K → loopM C X0 n 164 6 (impl_widths.l6.s.fill v) K :=
 loop_tell hX (fn := Try.f164) (c := bodyOf Try.f164) (a := loopOf Try.f164 6) (li := liOf (C.fi 164).loops 6) (by kernel_rfl) (by kernel_rfl) (of_decide_eq_true rfl) (by kernel_rfl) (by kernel_rfl) (T := impl_widths.l6.s) (u := impl_widths.l6.u) (fun _ _ h => h) (call := D53) (lp := fun n => orL 13 impl_widths.l13.s (impl_widths.l13.u n) noL) (D53_ok hX) (fun n => (orL_ok (impl_widths.l13_ok hX n) noL_ok)) (fun n v K => by kernel_rfl)
theorem impl_widths_ok : ∀ n v K, impl_widths.u n v K → callM C X0 n 164 (fillA impl_widths.a v) K :=
 call_tell hX (fn := Try.f164) (c := bodyOf Try.f164) (by kernel_rfl) (by kernel_rfl) (A := impl_widths.a) (u := impl_widths.u) (fun _ _ h => h) (call := D53) (lp := fun n => orL 6 impl_widths.l6.s (impl_widths.l6.u n) noL) (D53_ok hX) (fun n => (orL_ok (impl_widths.l6_ok hX n) noL_ok)) (fun n v K => by kernel_rfl)
def D54 (n : Nat) : CallF := orC 164 impl_widths.a (impl_widths.u n) (D53 n)
theorem D54_ok : ∀ n g a K, D54 n g a K → callM C X0 n g a K := fun n => orC_ok (impl_widths_ok hX n) (D53_ok hX n)
abbrev impl_widthOf.a : List TS := [.c (.o (.dat 89 (.prod .str (.int .i64)))), .a [.o (.dat 155 (.prod (.int .i64) (.prod (.int .i64) (.prod (.int .i64) (.prod (.int .i64) (.prod (.int .i64) (.prod (.sl 182 (.int .u64)) (.sl 2 (.int .i64)))))))))]]
def impl_widthOf.u (n : Nat) (v : VA impl_widthOf.a) (K : RES → Prop) : Prop := impl_widthOf.c n v.1 v.2.1.1 (fun r0 => K ⟨.c (.int .i64 r0), []⟩)
theorem impl_widthOf_ok : ∀ n v K, impl_widthOf.u n v K → callM C X0 n 124 (fillA impl_widthOf.a v) K :=
 call_tell hX (fn := Try.f124) (c := bodyOf Try.f124) (by kernel_rfl) (by kernel_rfl) (A := impl_widthOf.a) (u := impl_widthOf.u) (fun _ _ h => h) (call := D54) (lp := fun n => noL) (D54_ok hX) (fun n => noL_ok) (fun n v K => by kernel_rfl)
def D55 (n : Nat) : CallF := orC 124 impl_widthOf.a (impl_widthOf.u n) (D54 n)
theorem D55_ok : ∀ n g a K, D55 n g a K → callM C X0 n g a K := fun n => orC_ok (impl_widthOf_ok hX n) (D54_ok hX n)
abbrev impl_literalsOk.a : List TS := [.c (.o (.dat 89 (.prod .str (.int .i64)))), .c (.o (.dat 81 (.prod (.int .i64) (.prod .bool (.prod (.sl 155 (.prod (.int .i64) (.prod (.int .i64) (.prod (.int .i64) (.prod (.int .i64) (.prod (.int .i64) (.prod (.sl 182 (.int .u64)) (.sl 2 (.int .i64))))))))) (.sl 155 (.prod (.int .i64) (.prod (.int .i64) (.prod (.int .i64) (.prod (.int .i64) (.prod (.int .i64) (.prod (.sl 182 (.int .u64)) (.sl 2 (.int .i64))))))))))))))]
def impl_literalsOk.u (n : Nat) (v : VA impl_literalsOk.a) (K : RES → Prop) : Prop := impl_literalsOk.c n v.1 v.2.1 (fun r0 => K ⟨.c (.bool r0), []⟩)
abbrev impl_literalsOk.l5.s : ST := ⟨[(0, .c (.o (.dat 89 (.prod .str (.int .i64))))), (5, .c (.o (.int .i64))), (12, .c (.o (.dat 81 (.prod (.int .i64) (.prod .bool (.prod (.sl 155 (.prod (.int .i64) (.prod (.int .i64) (.prod (.int .i64) (.prod (.int .i64) (.prod (.int .i64) (.prod (.sl 182 (.int .u64)) (.sl 2 (.int .i64))))))))) (.sl 155 (.prod (.int .i64) (.prod (.int .i64) (.prod (.int .i64) (.prod (.int .i64) (.prod (.int .i64) (.prod (.sl 182 (.int .u64)) (.sl 2 (.int .i64))))))))))))))), (13, .c (.o (.int .i64))), (14, .c (.o (.int .i64)))], [], [], [], []⟩
def impl_literalsOk.l5.u (n : Nat) (v : impl_literalsOk.l5.s.V) (K : X → St → Prop) : Prop := impl_literalsOk.l5 n v.1.1 v.1.2.2.1 v.1.2.2.2.1 v.1.2.1 v.1.2.2.2.2.1 (K (.exit 0) ⟨[], [], [], [], []⟩) (fun y0 => K .ret ⟨[(4, .c (.bool y0))], [], [], [], []⟩)
theorem impl_literalsOk.l5_ok : ∀ n v K, impl_literalsOk.l5.u n v K → loopM C X0 n 87 5 (impl_literalsOk.l5.s.fill v) K :=
 loop_tell hX (fn := Try.f87) (c := bodyOf Try.f87) (a := loopOf Try.f87 5) (li := liOf (C.fi 87).loops 5) (by kernel_rfl) (by kernel_rfl) (of_decide_eq_true rfl) (by kernel_rfl) (by kernel_rfl) (T := impl_literalsOk.l5.s) (u := impl_literalsOk.l5.u) (fun _ _ h => h) (call := D55) (lp := fun n => noL) (D55_ok hX) (fun n => noL_ok) (fun n v K => by kernel_rfl)
theorem impl_literalsOk_ok : ∀ n v K, impl_literalsOk.u n v K → callM C X0 n 87 (fillA impl_literalsOk.a v) K :=
 call_tell hX (fn := Try.f87) (c := bodyOf Try.f87) (by kernel_rfl) (by kernel_rfl) (A := impl_literalsOk.a) (u := impl_literalsOk.u) (fun _ _ h => h) (call := D55) (lp := fun n => orL 5 impl_literalsOk.l5.s (impl_literalsOk.l5.u n) noL) (D55_ok hX) (fun n => (orL_ok (impl_literalsOk.l5_ok hX n) noL_ok)) (fun n v K => by kernel_rfl)
def D56 (n : Nat) : CallF := orC 87 impl_literalsOk.a (impl_literalsOk.u n) (D55 n)
theorem D56_ok : ∀ n g a K, D56 n g a K → callM C X0 n g a K := fun n => orC_ok (impl_literalsOk_ok hX n) (D55_ok hX n)
abbrev impl_Session_all.a : List TS := [.c (.o (.pdat 32 (.prod (.sl 89 (.prod .str (.int .i64))) (.prod (.sl 91 (.prod (.int .i64) (.sl 81 (.prod (.int .i64) (.prod .bool (.prod (.sl 155 (.prod (.int .i64) (.prod (.int .i64) (.prod (.int .i64) (.prod (.int .i64) (.prod (.int .i64) (.prod (.sl 182 (.int .u64)) (.sl 2 (.int .i64))))))))) (.sl 155 (.prod (.int .i64) (.prod (.int .i64) (.prod (.int .i64) (.prod (.int .i64) (.prod (.int .i64) (.prod (.sl 182 (.int .u64)) (.sl 2 (.int .i64))))))))))))))) (.int .i64))) 0))]
def impl_Session_all.u (n : Nat) (v : VA impl_Session_all.a) (K : RES → Prop) : Prop := impl_Session_all.c n v.1 (fun r0 => K ⟨.c (.row ⟨81, .prod (.int .i64) (.prod .bool (.prod (.sl 155 (.prod (.int .i64) (.prod (.int .i64) (.prod (.int .i64) (.prod (.int .i64) (.prod (.int .i64) (.prod (.sl 182 (.int .u64)) (.sl 2 (.int .i64))))))))) (.sl 155 (.prod (.int .i64) (.prod (.int .i64) (.prod (.int .i64) (.prod (.int .i64) (.prod (.int .i64) (.prod (.sl 182 (.int .u64)) (.sl 2 (.int .i64))))))))))), r0, 1, none⟩), []⟩)
abbrev impl_Session_all.l3.s : ST := ⟨[(3, .c (.o (.own 96))), (10, .c (.o (.dat 91 (.prod (.int .i64) (.sl 81 (.prod (.int .i64) (.prod .bool (.prod (.sl 155 (.prod (.int .i64) (.prod (.int .i64) (.prod (.int .i64) (.prod (.int .i64) (.prod (.int .i64) (.prod (.sl 182 (.int .u64)) (.sl 2 (.int .i64))))))))) (.sl 155 (.prod (.int .i64) (.prod (.int .i64) (.prod (.int .i64) (.prod (.int .i64) (.prod (.int .i64) (.prod (.sl 182 (.int .u64)) (.sl 2 (.int .i64))))))))))))))))), (11, .c (.o (.int .i64))), (12, .c (.o (.int .i64)))], [⟨96, 81, .prod (.int .i64) (.prod .bool (.prod (.sl 155 (.prod (.int .i64) (.prod (.int .i64) (.prod (.int .i64) (.prod (.int .i64) (.prod (.int .i64) (.prod (.sl 182 (.int .u64)) (.sl 2 (.int .i64))))))))) (.sl 155 (.prod (.int .i64) (.prod (.int .i64) (.prod (.int .i64) (.prod (.int .i64) (.prod (.int .i64) (.prod (.sl 182 (.int .u64)) (.sl 2 (.int .i64))))))))))), 1⟩], [], [], []⟩
def impl_Session_all.l3.u (n : Nat) (v : impl_Session_all.l3.s.V) (K : X → St → Prop) : Prop := impl_Session_all.l3 n v.1.2.1 v.1.2.2.1 v.1.2.2.2.1 v.2.1.1 (fun y0 => K (.exit 0) ⟨[(3, .c (.own 96))], [(96, ⟨81, .prod (.int .i64) (.prod .bool (.prod (.sl 155 (.prod (.int .i64) (.prod (.int .i64) (.prod (.int .i64) (.prod (.int .i64) (.prod (.int .i64) (.prod (.sl 182 (.int .u64)) (.sl 2 (.int .i64))))))))) (.sl 155 (.prod (.int .i64) (.prod (.int .i64) (.prod (.int .i64) (.prod (.int .i64) (.prod (.int .i64) (.prod (.sl 182 (.int .u64)) (.sl 2 (.int .i64))))))))))), y0, 1, none⟩)], [], [], []⟩)
theorem impl_Session_all.l3_ok : ∀ n v K, impl_Session_all.l3.u n v K → loopM C X0 n 49 3 (impl_Session_all.l3.s.fill v) K :=
 loop_tell hX (fn := Try.f49) (c := bodyOf Try.f49) (a := loopOf Try.f49 3) (li := liOf (C.fi 49).loops 3) (by kernel_rfl) (by kernel_rfl) (of_decide_eq_true rfl) (by kernel_rfl) (by kernel_rfl) (T := impl_Session_all.l3.s) (u := impl_Session_all.l3.u) (fun _ _ h => h) (call := D56) (lp := fun n => noL) (D56_ok hX) (fun n => noL_ok) (fun n v K => by kernel_rfl)
theorem impl_Session_all_ok : ∀ n v K, impl_Session_all.u n v K → callM C X0 n 49 (fillA impl_Session_all.a v) K :=
 call_tell hX (fn := Try.f49) (c := bodyOf Try.f49) (by kernel_rfl) (by kernel_rfl) (A := impl_Session_all.a) (u := impl_Session_all.u) (fun _ _ h => h) (call := D56) (lp := fun n => orL 3 impl_Session_all.l3.s (impl_Session_all.l3.u n) noL) (D56_ok hX) (fun n => (orL_ok (impl_Session_all.l3_ok hX n) noL_ok)) (fun n v K => by kernel_rfl)
def D57 (n : Nat) : CallF := orC 49 impl_Session_all.a (impl_Session_all.u n) (D56 n)
theorem D57_ok : ∀ n g a K, D57 n g a K → callM C X0 n g a K := fun n => orC_ok (impl_Session_all_ok hX n) (D56_ok hX n)
abbrev impl_SessionOk.a : List TS := [.a [.o (.dat 89 (.prod .str (.int .i64))), .o (.dat 91 (.prod (.int .i64) (.sl 81 (.prod (.int .i64) (.prod .bool (.prod (.sl 155 (.prod (.int .i64) (.prod (.int .i64) (.prod (.int .i64) (.prod (.int .i64) (.prod (.int .i64) (.prod (.sl 182 (.int .u64)) (.sl 2 (.int .i64))))))))) (.sl 155 (.prod (.int .i64) (.prod (.int .i64) (.prod (.int .i64) (.prod (.int .i64) (.prod (.int .i64) (.prod (.sl 182 (.int .u64)) (.sl 2 (.int .i64))))))))))))))), .o (.int .i64)]]
def impl_SessionOk.u (n : Nat) (v : VA impl_SessionOk.a) (K : RES → Prop) : Prop := impl_SessionOk.c n v.1.1 v.1.2.1 v.1.2.2.1 (fun r0 => K ⟨.c (.bool r0), []⟩)
abbrev impl_SessionOk.l5.s : ST := ⟨[(1, .c (.o (.pbox 1 0))), (3, .c (.o (.int .i64))), (34, .c (.o (.dat 91 (.prod (.int .i64) (.sl 81 (.prod (.int .i64) (.prod .bool (.prod (.sl 155 (.prod (.int .i64) (.prod (.int .i64) (.prod (.int .i64) (.prod (.int .i64) (.prod (.int .i64) (.prod (.sl 182 (.int .u64)) (.sl 2 (.int .i64))))))))) (.sl 155 (.prod (.int .i64) (.prod (.int .i64) (.prod (.int .i64) (.prod (.int .i64) (.prod (.int .i64) (.prod (.sl 182 (.int .u64)) (.sl 2 (.int .i64))))))))))))))))), (35, .c (.o (.int .i64))), (36, .c (.o (.int .i64)))], [], [⟨1, 32, [.o (.dat 89 (.prod .str (.int .i64))), .o (.dat 91 (.prod (.int .i64) (.sl 81 (.prod (.int .i64) (.prod .bool (.prod (.sl 155 (.prod (.int .i64) (.prod (.int .i64) (.prod (.int .i64) (.prod (.int .i64) (.prod (.int .i64) (.prod (.sl 182 (.int .u64)) (.sl 2 (.int .i64))))))))) (.sl 155 (.prod (.int .i64) (.prod (.int .i64) (.prod (.int .i64) (.prod (.int .i64) (.prod (.int .i64) (.prod (.sl 182 (.int .u64)) (.sl 2 (.int .i64))))))))))))))), .o (.int .i64)], false⟩], [], []⟩
def impl_SessionOk.l5.u (n : Nat) (v : impl_SessionOk.l5.s.V) (K : X → St → Prop) : Prop := impl_SessionOk.l5 n v.1.2.2.1 v.1.2.2.2.1 v.2.2.1.1 v.2.2.1.2.1 v.2.2.1.2.2.1 v.1.2.1 v.1.2.2.2.2.1 (fun y0 y1 y2 => K (.exit 0) ⟨[(1, .c (.pbox 1 0))], [], [(1, ⟨32, [.dat 89 (.prod .str (.int .i64)) y0, .dat 91 (.prod (.int .i64) (.sl 81 (.prod (.int .i64) (.prod .bool (.prod (.sl 155 (.prod (.int .i64) (.prod (.int .i64) (.prod (.int .i64) (.prod (.int .i64) (.prod (.int .i64) (.prod (.sl 182 (.int .u64)) (.sl 2 (.int .i64))))))))) (.sl 155 (.prod (.int .i64) (.prod (.int .i64) (.prod (.int .i64) (.prod (.int .i64) (.prod (.int .i64) (.prod (.sl 182 (.int .u64)) (.sl 2 (.int .i64)))))))))))))) y1, .int .i64 y2], false⟩)], [], []⟩) (fun y0 => K .ret ⟨[(2, .c (.bool y0))], [], [], [], []⟩)
abbrev impl_SessionOk.l12.s : ST := ⟨[(1, .c (.o (.pbox 1 0))), (62, .c (.o (.dat 91 (.prod (.int .i64) (.sl 81 (.prod (.int .i64) (.prod .bool (.prod (.sl 155 (.prod (.int .i64) (.prod (.int .i64) (.prod (.int .i64) (.prod (.int .i64) (.prod (.int .i64) (.prod (.sl 182 (.int .u64)) (.sl 2 (.int .i64))))))))) (.sl 155 (.prod (.int .i64) (.prod (.int .i64) (.prod (.int .i64) (.prod (.int .i64) (.prod (.int .i64) (.prod (.sl 182 (.int .u64)) (.sl 2 (.int .i64))))))))))))))))), (63, .c (.o (.int .i64))), (64, .c (.o (.int .i64)))], [], [⟨1, 32, [.o (.dat 89 (.prod .str (.int .i64))), .o (.dat 91 (.prod (.int .i64) (.sl 81 (.prod (.int .i64) (.prod .bool (.prod (.sl 155 (.prod (.int .i64) (.prod (.int .i64) (.prod (.int .i64) (.prod (.int .i64) (.prod (.int .i64) (.prod (.sl 182 (.int .u64)) (.sl 2 (.int .i64))))))))) (.sl 155 (.prod (.int .i64) (.prod (.int .i64) (.prod (.int .i64) (.prod (.int .i64) (.prod (.int .i64) (.prod (.sl 182 (.int .u64)) (.sl 2 (.int .i64))))))))))))))), .o (.int .i64)], false⟩], [], []⟩
def impl_SessionOk.l12.u (n : Nat) (v : impl_SessionOk.l12.s.V) (K : X → St → Prop) : Prop := impl_SessionOk.l12 n v.1.2.1 v.1.2.2.1 v.2.2.1.1 v.2.2.1.2.1 v.2.2.1.2.2.1 v.1.2.2.2.1 (fun y0 y1 y2 => K (.exit 2) ⟨[(1, .c (.pbox 1 0))], [], [(1, ⟨32, [.dat 89 (.prod .str (.int .i64)) y0, .dat 91 (.prod (.int .i64) (.sl 81 (.prod (.int .i64) (.prod .bool (.prod (.sl 155 (.prod (.int .i64) (.prod (.int .i64) (.prod (.int .i64) (.prod (.int .i64) (.prod (.int .i64) (.prod (.sl 182 (.int .u64)) (.sl 2 (.int .i64))))))))) (.sl 155 (.prod (.int .i64) (.prod (.int .i64) (.prod (.int .i64) (.prod (.int .i64) (.prod (.int .i64) (.prod (.sl 182 (.int .u64)) (.sl 2 (.int .i64)))))))))))))) y1, .int .i64 y2], false⟩)], [], []⟩) (fun y0 => K .ret ⟨[(2, .c (.bool y0))], [], [], [], []⟩)
abbrev impl_SessionOk.l21.s : ST := ⟨[(1, .c (.o (.pbox 1 0))), (8, .c (.o (.own 2528))), (83, .c (.o (.own 2528))), (84, .c (.o (.int .i64))), (85, .c (.o (.int .i64)))], [⟨2528, 81, .prod (.int .i64) (.prod .bool (.prod (.sl 155 (.prod (.int .i64) (.prod (.int .i64) (.prod (.int .i64) (.prod (.int .i64) (.prod (.int .i64) (.prod (.sl 182 (.int .u64)) (.sl 2 (.int .i64))))))))) (.sl 155 (.prod (.int .i64) (.prod (.int .i64) (.prod (.int .i64) (.prod (.int .i64) (.prod (.int .i64) (.prod (.sl 182 (.int .u64)) (.sl 2 (.int .i64))))))))))), 1⟩], [⟨1, 32, [.o (.dat 89 (.prod .str (.int .i64))), .o (.dat 91 (.prod (.int .i64) (.sl 81 (.prod (.int .i64) (.prod .bool (.prod (.sl 155 (.prod (.int .i64) (.prod (.int .i64) (.prod (.int .i64) (.prod (.int .i64) (.prod (.int .i64) (.prod (.sl 182 (.int .u64)) (.sl 2 (.int .i64))))))))) (.sl 155 (.prod (.int .i64) (.prod (.int .i64) (.prod (.int .i64) (.prod (.int .i64) (.prod (.int .i64) (.prod (.sl 182 (.int .u64)) (.sl 2 (.int .i64))))))))))))))), .o (.int .i64)], true⟩], [], []⟩
def impl_SessionOk.l21.u (n : Nat) (v : impl_SessionOk.l21.s.V) (K : X → St → Prop) : Prop := impl_SessionOk.l21 n v.1.2.2.2.1 v.2.1.1 v.2.2.1.1 v.2.2.1.2.1 v.2.2.1.2.2.1 v.1.2.2.2.2.1 (K (.exit 4) ⟨[], [], [], [], []⟩) (fun y0 => K .ret ⟨[(2, .c (.bool y0))], [], [], [], []⟩)
theorem impl_SessionOk.l5_ok : ∀ n v K, impl_SessionOk.l5.u n v K → loopM C X0 n 47 5 (impl_SessionOk.l5.s.fill v) K :=
 loop_tell hX (fn := Try.f47) (c := bodyOf Try.f47) (a := loopOf Try.f47 5) (li := liOf (C.fi 47).loops 5) (by kernel_rfl) (by kernel_rfl) (of_decide_eq_true rfl) (by kernel_rfl) (by kernel_rfl) (T := impl_SessionOk.l5.s) (u := impl_SessionOk.l5.u) (fun _ _ h => h) (call := D57) (lp := fun n => noL) (D57_ok hX) (fun n => noL_ok) (fun n v K => by kernel_rfl)
theorem impl_SessionOk.l12_ok : ∀ n v K, impl_SessionOk.l12.u n v K → loopM C X0 n 47 12 (impl_SessionOk.l12.s.fill v) K :=
 loop_tell hX (fn := Try.f47) (c := bodyOf Try.f47) (a := loopOf Try.f47 12) (li := liOf (C.fi 47).loops 12) (by kernel_rfl) (by kernel_rfl) (of_decide_eq_true rfl) (by kernel_rfl) (by kernel_rfl) (T := impl_SessionOk.l12.s) (u := impl_SessionOk.l12.u) (fun _ _ h => h) (call := D57) (lp := fun n => noL) (D57_ok hX) (fun n => noL_ok) (fun n v K => by kernel_rfl)
theorem impl_SessionOk.l21_ok : ∀ n v K, impl_SessionOk.l21.u n v K → loopM C X0 n 47 21 (impl_SessionOk.l21.s.fill v) K :=
 loop_tell hX (fn := Try.f47) (c := bodyOf Try.f47) (a := loopOf Try.f47 21) (li := liOf (C.fi 47).loops 21) (by kernel_rfl) (by kernel_rfl) (of_decide_eq_true rfl) (by kernel_rfl) (by kernel_rfl) (T := impl_SessionOk.l21.s) (u := impl_SessionOk.l21.u) (fun _ _ h => h) (call := D57) (lp := fun n => noL) (D57_ok hX) (fun n => noL_ok) (fun n v K => by kernel_rfl)
theorem impl_SessionOk_ok : ∀ n v K, impl_SessionOk.u n v K → callM C X0 n 47 (fillA impl_SessionOk.a v) K :=
 call_tell hX (fn := Try.f47) (c := bodyOf Try.f47) (by kernel_rfl) (by kernel_rfl) (A := impl_SessionOk.a) (u := impl_SessionOk.u) (fun _ _ h => h) (call := D57) (lp := fun n => orL 5 impl_SessionOk.l5.s (impl_SessionOk.l5.u n) (orL 12 impl_SessionOk.l12.s (impl_SessionOk.l12.u n) (orL 21 impl_SessionOk.l21.s (impl_SessionOk.l21.u n) noL))) (D57_ok hX) (fun n => (orL_ok (impl_SessionOk.l5_ok hX n) (orL_ok (impl_SessionOk.l12_ok hX n) (orL_ok (impl_SessionOk.l21_ok hX n) noL_ok)))) (fun n v K => by kernel_rfl)
def D58 (n : Nat) : CallF := orC 47 impl_SessionOk.a (impl_SessionOk.u n) (D57 n)
theorem D58_ok : ∀ n g a K, D58 n g a K → callM C X0 n g a K := fun n => orC_ok (impl_SessionOk_ok hX n) (D57_ok hX n)
abbrev laws_eqUint64S.a : List TS := [.c (.o (.dat 182 (.int .u64))), .c (.o (.dat 182 (.int .u64)))]
def laws_eqUint64S.u (n : Nat) (v : VA laws_eqUint64S.a) (K : RES → Prop) : Prop := laws_eqUint64S.c n v.1 v.2.1 (fun r0 => K ⟨.c (.bool r0), []⟩)
abbrev laws_eqUint64S.l4.s : ST := ⟨[(0, .c (.o (.dat 182 (.int .u64)))), (1, .c (.o (.dat 182 (.int .u64)))), (5, .c (.o (.int .i64)))], [], [], [], []⟩
def laws_eqUint64S.l4.u (n : Nat) (v : laws_eqUint64S.l4.s.V) (K : X → St → Prop) : Prop := laws_eqUint64S.l4 n v.1.1 v.1.2.1 v.1.2.2.1 (K (.exit 0) ⟨[], [], [], [], []⟩) (fun y0 => K .ret ⟨[(4, .c (.bool y0))], [], [], [], []⟩)
theorem laws_eqUint64S.l4_ok : ∀ n v K, laws_eqUint64S.l4.u n v K → loopM C X0 n 243 4 (laws_eqUint64S.l4.s.fill v) K :=
 loop_tell hX (fn := Try.f243) (c := bodyOf Try.f243) (a := loopOf Try.f243 4) (li := liOf (C.fi 243).loops 4) (by kernel_rfl) (by kernel_rfl) (of_decide_eq_true rfl) (by kernel_rfl) (by kernel_rfl) (T := laws_eqUint64S.l4.s) (u := laws_eqUint64S.l4.u) (fun _ _ h => h) (call := D58) (lp := fun n => noL) (D58_ok hX) (fun n => noL_ok) (fun n v K => by kernel_rfl)
theorem laws_eqUint64S_ok : ∀ n v K, laws_eqUint64S.u n v K → callM C X0 n 243 (fillA laws_eqUint64S.a v) K :=
 call_tell hX (fn := Try.f243) (c := bodyOf Try.f243) (by kernel_rfl) (by kernel_rfl) (A := laws_eqUint64S.a) (u := laws_eqUint64S.u) (fun _ _ h => h) (call := D58) (lp := fun n => orL 4 laws_eqUint64S.l4.s (laws_eqUint64S.l4.u n) noL) (D58_ok hX) (fun n => (orL_ok (laws_eqUint64S.l4_ok hX n) noL_ok)) (fun n v K => by kernel_rfl)
def D59 (n : Nat) : CallF := orC 243 laws_eqUint64S.a (laws_eqUint64S.u n) (D58 n)
theorem D59_ok : ∀ n g a K, D59 n g a K → callM C X0 n g a K := fun n => orC_ok (laws_eqUint64S_ok hX n) (D58_ok hX n)
abbrev laws_eqBits.a : List TS := [.a [.o (.int .i64), .o (.dat 182 (.int .u64))], .a [.o (.int .i64), .o (.dat 182 (.int .u64))]]
def laws_eqBits.u (n : Nat) (v : VA laws_eqBits.a) (K : RES → Prop) : Prop := laws_eqBits.c n v.1.1 v.1.2.1 v.2.1.1 v.2.1.2.1 (fun r0 => K ⟨.c (.bool r0), []⟩)
theorem laws_eqBits_ok : ∀ n v K, laws_eqBits.u n v K → callM C X0 n 221 (fillA laws_eqBits.a v) K :=
 call_tell hX (fn := Try.f221) (c := bodyOf Try.f221) (by kernel_rfl) (by kernel_rfl) (A := laws_eqBits.a) (u := laws_eqBits.u) (fun _ _ h => h) (call := D59) (lp := fun n => noL) (D59_ok hX) (fun n => noL_ok) (fun n v K => by kernel_rfl)
def D60 (n : Nat) : CallF := orC 221 laws_eqBits.a (laws_eqBits.u n) (D59 n)
theorem D60_ok : ∀ n g a K, D60 n g a K → callM C X0 n g a K := fun n => orC_ok (laws_eqBits_ok hX n) (D59_ok hX n)
abbrev laws_eqInt64S.a : List TS := [.c (.o (.dat 2 (.int .i64))), .c (.o (.dat 2 (.int .i64)))]
def laws_eqInt64S.u (n : Nat) (v : VA laws_eqInt64S.a) (K : RES → Prop) : Prop := laws_eqInt64S.c n v.1 v.2.1 (fun r0 => K ⟨.c (.bool r0), []⟩)
abbrev laws_eqInt64S.l4.s : ST := ⟨[(0, .c (.o (.dat 2 (.int .i64)))), (1, .c (.o (.dat 2 (.int .i64)))), (5, .c (.o (.int .i64)))], [], [], [], []⟩
def laws_eqInt64S.l4.u (n : Nat) (v : laws_eqInt64S.l4.s.V) (K : X → St → Prop) : Prop := laws_eqInt64S.l4 n v.1.1 v.1.2.1 v.1.2.2.1 (K (.exit 0) ⟨[], [], [], [], []⟩) (fun y0 => K .ret ⟨[(4, .c (.bool y0))], [], [], [], []⟩)
theorem laws_eqInt64S.l4_ok : ∀ n v K, laws_eqInt64S.l4.u n v K → loopM C X0 n 222 4 (laws_eqInt64S.l4.s.fill v) K :=
 loop_tell hX (fn := Try.f222) (c := bodyOf Try.f222) (a := loopOf Try.f222 4) (li := liOf (C.fi 222).loops 4) (by kernel_rfl) (by kernel_rfl) (of_decide_eq_true rfl) (by kernel_rfl) (by kernel_rfl) (T := laws_eqInt64S.l4.s) (u := laws_eqInt64S.l4.u) (fun _ _ h => h) (call := D60) (lp := fun n => noL) (D60_ok hX) (fun n => noL_ok) (fun n v K => by kernel_rfl)
theorem laws_eqInt64S_ok : ∀ n v K, laws_eqInt64S.u n v K → callM C X0 n 222 (fillA laws_eqInt64S.a v) K :=
 call_tell hX (fn := Try.f222) (c := bodyOf Try.f222) (by kernel_rfl) (by kernel_rfl) (A := laws_eqInt64S.a) (u := laws_eqInt64S.u) (fun _ _ h => h) (call := D60) (lp := fun n => orL 4 laws_eqInt64S.l4.s (laws_eqInt64S.l4.u n) noL) (D60_ok hX) (fun n => (orL_ok (laws_eqInt64S.l4_ok hX n) noL_ok)) (fun n v K => by kernel_rfl)
def D61 (n : Nat) : CallF := orC 222 laws_eqInt64S.a (laws_eqInt64S.u n) (D60 n)
theorem D61_ok : ∀ n g a K, D61 n g a K → callM C X0 n g a K := fun n => orC_ok (laws_eqInt64S_ok hX n) (D60_ok hX n)
abbrev laws_eqTNode.a : List TS := [.a [.o (.int .i64), .o (.int .i64), .o (.int .i64), .o (.int .i64), .o (.int .i64), .o (.dat 182 (.int .u64)), .o (.dat 2 (.int .i64))], .a [.o (.int .i64), .o (.int .i64), .o (.int .i64), .o (.int .i64), .o (.int .i64), .o (.dat 182 (.int .u64)), .o (.dat 2 (.int .i64))]]
def laws_eqTNode.u (n : Nat) (v : VA laws_eqTNode.a) (K : RES → Prop) : Prop := laws_eqTNode.c n v.1.1 v.1.2.1 v.1.2.2.1 v.1.2.2.2.1 v.1.2.2.2.2.1 v.1.2.2.2.2.2.1 v.1.2.2.2.2.2.2.1 v.2.1.1 v.2.1.2.1 v.2.1.2.2.1 v.2.1.2.2.2.1 v.2.1.2.2.2.2.1 v.2.1.2.2.2.2.2.1 v.2.1.2.2.2.2.2.2.1 (fun r0 => K ⟨.c (.bool r0), []⟩)
theorem laws_eqTNode_ok : ∀ n v K, laws_eqTNode.u n v K → callM C X0 n 186 (fillA laws_eqTNode.a v) K :=
 call_tell hX (fn := Try.f186) (c := bodyOf Try.f186) (by kernel_rfl) (by kernel_rfl) (A := laws_eqTNode.a) (u := laws_eqTNode.u) (fun _ _ h => h) (call := D61) (lp := fun n => noL) (D61_ok hX) (fun n => noL_ok) (fun n v K => by kernel_rfl)
def D62 (n : Nat) : CallF := orC 186 laws_eqTNode.a (laws_eqTNode.u n) (D61 n)
theorem D62_ok : ∀ n g a K, D62 n g a K → callM C X0 n g a K := fun n => orC_ok (laws_eqTNode_ok hX n) (D61_ok hX n)
abbrev laws_eqTNodeS.a : List TS := [.c (.o (.dat 155 (.prod (.int .i64) (.prod (.int .i64) (.prod (.int .i64) (.prod (.int .i64) (.prod (.int .i64) (.prod (.sl 182 (.int .u64)) (.sl 2 (.int .i64)))))))))), .c (.o (.dat 155 (.prod (.int .i64) (.prod (.int .i64) (.prod (.int .i64) (.prod (.int .i64) (.prod (.int .i64) (.prod (.sl 182 (.int .u64)) (.sl 2 (.int .i64))))))))))]
def laws_eqTNodeS.u (n : Nat) (v : VA laws_eqTNodeS.a) (K : RES → Prop) : Prop := laws_eqTNodeS.c n v.1 v.2.1 (fun r0 => K ⟨.c (.bool r0), []⟩)
abbrev laws_eqTNodeS.l4.s : ST := ⟨[(0, .c (.o (.dat 155 (.prod (.int .i64) (.prod (.int .i64) (.prod (.int .i64) (.prod (.int .i64) (.prod (.int .i64) (.prod (.sl 182 (.int .u64)) (.sl 2 (.int .i64))))))))))), (1, .c (.o (.dat 155 (.prod (.int .i64) (.prod (.int .i64) (.prod (.int .i64) (.prod (.int .i64) (.prod (.int .i64) (.prod (.sl 182 (.int .u64)) (.sl 2 (.int .i64))))))))))), (5, .c (.o (.int .i64)))], [], [], [], []⟩
def laws_eqTNodeS.l4.u (n : Nat) (v : laws_eqTNodeS.l4.s.V) (K : X → St → Prop) : Prop := laws_eqTNodeS.l4 n v.1.1 v.1.2.1 v.1.2.2.1 (K (.exit 0) ⟨[], [], [], [], []⟩) (fun y0 => K .ret ⟨[(4, .c (.bool y0))], [], [], [], []⟩)
theorem laws_eqTNodeS.l4_ok : ∀ n v K, laws_eqTNodeS.l4.u n v K → loopM C X0 n 156 4 (laws_eqTNodeS.l4.s.fill v) K :=
 loop_tell hX (fn := Try.f156) (c := bodyOf Try.f156) (a := loopOf Try.f156 4) (li := liOf (C.fi 156).loops 4) (by kernel_rfl) (by kernel_rfl) (of_decide_eq_true rfl) (by kernel_rfl) (by kernel_rfl) (T := laws_eqTNodeS.l4.s) (u := laws_eqTNodeS.l4.u) (fun _ _ h => h) (call := D62) (lp := fun n => noL) (D62_ok hX) (fun n => noL_ok) (fun n v K => by kernel_rfl)
theorem laws_eqTNodeS_ok : ∀ n v K, laws_eqTNodeS.u n v K → callM C X0 n 156 (fillA laws_eqTNodeS.a v) K :=
 call_tell hX (fn := Try.f156) (c := bodyOf Try.f156) (by kernel_rfl) (by kernel_rfl) (A := laws_eqTNodeS.a) (u := laws_eqTNodeS.u) (fun _ _ h => h) (call := D62) (lp := fun n => orL 4 laws_eqTNodeS.l4.s (laws_eqTNodeS.l4.u n) noL) (D62_ok hX) (fun n => (orL_ok (laws_eqTNodeS.l4_ok hX n) noL_ok)) (fun n v K => by kernel_rfl)
def D63 (n : Nat) : CallF := orC 156 laws_eqTNodeS.a (laws_eqTNodeS.u n) (D62 n)
theorem D63_ok : ∀ n g a K, D63 n g a K → callM C X0 n g a K := fun n => orC_ok (laws_eqTNodeS_ok hX n) (D62_ok hX n)
end
end Go.Vsi
end

section
set_option linter.unusedVariables false
namespace Go.Vsi
open Go.Proofs
section
variable {X0 : CallF} (hX : CallF.Mono X0)
include hX
abbrev laws_eqTerm.a : List TS := [.a [.o (.dat 155 (.prod (.int .i64) (.prod (.int .i64) (.prod (.int .i64) (.prod (.int .i64) (.prod (.int .i64) (.prod (.sl 182 (.int .u64)) (.sl 2 (.int .i64)))))))))], .a [.o (.dat 155 (.prod (.int .i64) (.prod (.int .i64) (.prod (.int .i64) (.prod (.int .i64) (.prod (.int .i64) (.prod (.sl 182 (.int .u64)) (.sl 2 (.int .i64)))))))))]]
def laws_eqTerm.u (n : Nat) (v : VA laws_eqTerm.a) (K : RES → Prop) : Prop := laws_eqTerm.c n v.1.1 v.2.1.1 (fun r0 => K ⟨.c (.bool r0), []⟩)
theorem laws_eqTerm_ok : ∀ n v K, laws_eqTerm.u n v K → callM C X0 n 109 (fillA laws_eqTerm.a v) K :=
 call_tell hX (fn := Try.f109) (c := bodyOf Try.f109) (by kernel_rfl) (by kernel_rfl) (A := laws_eqTerm.a) (u := laws_eqTerm.u) (fun _ _ h => h) (call := D63) (lp := fun n => noL) (D63_ok hX) (fun n => noL_ok) (fun n v K => by kernel_rfl)
def D64 (n : Nat) : CallF := orC 109 laws_eqTerm.a (laws_eqTerm.u n) (D63 n)
theorem D64_ok : ∀ n g a K, D64 n g a K → callM C X0 n g a K := fun n => orC_ok (laws_eqTerm_ok hX n) (D63_ok hX n)
abbrev laws_eqLiteral.a : List TS := [.a [.o (.int .i64), .o .bool, .o (.dat 155 (.prod (.int .i64) (.prod (.int .i64) (.prod (.int .i64) (.prod (.int .i64) (.prod (.int .i64) (.prod (.sl 182 (.int .u64)) (.sl 2 (.int .i64))))))))), .o (.dat 155 (.prod (.int .i64) (.prod (.int .i64) (.prod (.int .i64) (.prod (.int .i64) (.prod (.int .i64) (.prod (.sl 182 (.int .u64)) (.sl 2 (.int .i64)))))))))], .a [.o (.int .i64), .o .bool, .o (.dat 155 (.prod (.int .i64) (.prod (.int .i64) (.prod (.int .i64) (.prod (.int .i64) (.prod (.int .i64) (.prod (.sl 182 (.int .u64)) (.sl 2 (.int .i64))))))))), .o (.dat 155 (.prod (.int .i64) (.prod (.int .i64) (.prod (.int .i64) (.prod (.int .i64) (.prod (.int .i64) (.prod (.sl 182 (.int .u64)) (.sl 2 (.int .i64)))))))))]]
def laws_eqLiteral.u (n : Nat) (v : VA laws_eqLiteral.a) (K : RES → Prop) : Prop := laws_eqLiteral.c n v.1.1 v.1.2.1 v.1.2.2.1 v.1.2.2.2.1 v.2.1.1 v.2.1.2.1 v.2.1.2.2.1 v.2.1.2.2.2.1 (fun r0 => K ⟨.c (.bool r0), []⟩)
theorem laws_eqLiteral_ok : ∀ n v K, laws_eqLiteral.u n v K → callM C X0 n 50 (fillA laws_eqLiteral.a v) K :=
 call_tell hX (fn := Try.f50) (c := bodyOf Try.f50) (by kernel_rfl) (by kernel_rfl) (A := laws_eqLiteral.a) (u := laws_eqLiteral.u) (fun _ _ h => h) (call := D64) (lp := fun n => noL) (D64_ok hX) (fun n => noL_ok) (fun n v K => by kernel_rfl)
def D65 (n : Nat) : CallF := orC 50 laws_eqLiteral.a (laws_eqLiteral.u n) (D64 n)
theorem D65_ok : ∀ n g a K, D65 n g a K → callM C X0 n g a K := fun n => orC_ok (laws_eqLiteral_ok hX n) (D64_ok hX n)
abbrev laws_eqLiteralS.a : List TS := [.c (.o (.dat 81 (.prod (.int .i64) (.prod .bool (.prod (.sl 155 (.prod (.int .i64) (.prod (.int .i64) (.prod (.int .i64) (.prod (.int .i64) (.prod (.int .i64) (.prod (.sl 182 (.int .u64)) (.sl 2 (.int .i64))))))))) (.sl 155 (.prod (.int .i64) (.prod (.int .i64) (.prod (.int .i64) (.prod (.int .i64) (.prod (.int .i64) (.prod (.sl 182 (.int .u64)) (.sl 2 (.int .i64)))))))))))))), .c (.o (.dat 81 (.prod (.int .i64) (.prod .bool (.prod (.sl 155 (.prod (.int .i64) (.prod (.int .i64) (.prod (.int .i64) (.prod (.int .i64) (.prod (.int .i64) (.prod (.sl 182 (.int .u64)) (.sl 2 (.int .i64))))))))) (.sl 155 (.prod (.int .i64) (.prod (.int .i64) (.prod (.int .i64) (.prod (.int .i64) (.prod (.int .i64) (.prod (.sl 182 (.int .u64)) (.sl 2 (.int .i64))))))))))))))]
def laws_eqLiteralS.u (n : Nat) (v : VA laws_eqLiteralS.a) (K : RES → Prop) : Prop := laws_eqLiteralS.c n v.1 v.2.1 (fun r0 => K ⟨.c (.bool r0), []⟩)
abbrev laws_eqLiteralS.l4.s : ST := ⟨[(0, .c (.o (.dat 81 (.prod (.int .i64) (.prod .bool (.prod (.sl 155 (.prod (.int .i64) (.prod (.int .i64) (.prod (.int .i64) (.prod (.int .i64) (.prod (.int .i64) (.prod (.sl 182 (.int .u64)) (.sl 2 (.int .i64))))))))) (.sl 155 (.prod (.int .i64) (.prod (.int .i64) (.prod (.int .i64) (.prod (.int .i64) (.prod (.int .i64) (.prod (.sl 182 (.int .u64)) (.sl 2 (.int .i64))))))))))))))), (1, .c (.o (.dat 81 (.prod (.int .i64) (.prod .bool (.prod (.sl 155 (.prod (.int .i64) (.prod (.int .i64) (.prod (.int .i64) (.prod (.int .i64) (.prod (.int .i64) (.prod (.sl 182 (.int .u64)) (.sl 2 (.int .i64))))))))) (.sl 155 (.prod (.int .i64) (.prod (.int .i64) (.prod (.int .i64) (.prod (.int .i64) (.prod (.int .i64) (.prod (.sl 182 (.int .u64)) (.sl 2 (.int .i64))))))))))))))), (5, .c (.o (.int .i64)))], [], [], [], []⟩
def laws_eqLiteralS.l4.u (n : Nat) (v : laws_eqLiteralS.l4.s.V) (K : X → St → Prop) : Prop := laws_eqLiteralS.l4 n v.1.1 v.1.2.1 v.1.2.2.1 (K (.exit 0) ⟨[], [], [], [], []⟩) (fun y0 => K .ret ⟨[(4, .c (.bool y0))], [], [], [], []⟩)
theorem laws_eqLiteralS.l4_ok : ∀ n v K, laws_eqLiteralS.l4.u n v K → loopM C X0 n 12 4 (laws_eqLiteralS.l4.s.fill v) K :=
 loop_tell hX (fn := Try.f12) (c := bodyOf Try.f12) (a := loopOf Try.f12 4) (li := liOf (C.fi 12).loops 4) (by kernel_rfl) (by kernel_rfl) (of_decide_eq_true rfl) (by kernel_rfl) (by kernel_rfl) (T := laws_eqLiteralS.l4.s) (u := laws_eqLiteralS.l4.u) (fun _ _ h => h) (call := D65) (lp := fun n => noL) (D65_ok hX) (fun n => noL_ok) (fun n v K => by kernel_rfl)
theorem laws_eqLiteralS_ok : ∀ n v K, laws_eqLiteralS.u n v K → callM C X0 n 12 (fillA laws_eqLiteralS.a v) K :=
 call_tell hX (fn := Try.f12) (c := bodyOf Try.f12) (by kernel_rfl) (by kernel_rfl) (A := laws_eqLiteralS.a) (u := laws_eqLiteralS.u) (fun _ _ h => h) (call := D65) (lp := fun n => orL 4 laws_eqLiteralS.l4.s (laws_eqLiteralS.l4.u n) noL) (D65_ok hX) (fun n => (orL_ok (laws_eqLiteralS.l4_ok hX n) noL_ok)) (fun n v K => by kernel_rfl)
def D66 (n : Nat) : CallF := orC 12 laws_eqLiteralS.a (laws_eqLiteralS.u n) (D65 n)
theorem D66_ok : ∀ n g a K, D66 n g a K → callM C X0 n g a K := fun n => orC_ok (laws_eqLiteralS_ok hX n) (D65_ok hX n)
abbrev laws_eqDecl.a : List TS := [.a [.o .str, .o (.int .i64)], .a [.o .str, .o (.int .i64)]]
def laws_eqDecl.u (n : Nat) (v : VA laws_eqDecl.a) (K : RES → Prop) : Prop := laws_eqDecl.c n v.1.1 v.1.2.1 v.2.1.1 v.2.1.2.1 (fun r0 => K ⟨.c (.bool r0), []⟩)
theorem laws_eqDecl_ok : ∀ n v K, laws_eqDecl.u n v K → callM C X0 n 74 (fillA laws_eqDecl.a v) K :=
 call_tell hX (fn := Try.f74) (c := bodyOf Try.f74) (by kernel_rfl) (by kernel_rfl) (A := laws_eqDecl.a) (u := laws_eqDecl.u) (fun _ _ h => h) (call := D66) (lp := fun n => noL) (D66_ok hX) (fun n => noL_ok) (fun n v K => by kernel_rfl)
def D67 (n : Nat) : CallF := orC 74 laws_eqDecl.a (laws_eqDecl.u n) (D66 n)
theorem D67_ok : ∀ n g a K, D67 n g a K → callM C X0 n g a K := fun n => orC_ok (laws_eqDecl_ok hX n) (D66_ok hX n)
abbrev laws_eqDeclS.a : List TS := [.c (.o (.dat 89 (.prod .str (.int .i64)))), .c (.o (.dat 89 (.prod .str (.int .i64))))]
def laws_eqDeclS.u (n : Nat) (v : VA laws_eqDeclS.a) (K : RES → Prop) : Prop := laws_eqDeclS.c n v.1 v.2.1 (fun r0 => K ⟨.c (.bool r0), []⟩)
abbrev laws_eqDeclS.l4.s : ST := ⟨[(0, .c (.o (.dat 89 (.prod .str (.int .i64))))), (1, .c (.o (.dat 89 (.prod .str (.int .i64))))), (5, .c (.o (.int .i64)))], [], [], [], []⟩
def laws_eqDeclS.l4.u (n : Nat) (v : laws_eqDeclS.l4.s.V) (K : X → St → Prop) : Prop := laws_eqDeclS.l4 n v.1.1 v.1.2.1 v.1.2.2.1 (K (.exit 0) ⟨[], [], [], [], []⟩) (fun y0 => K .ret ⟨[(4, .c (.bool y0))], [], [], [], []⟩)
theorem laws_eqDeclS.l4_ok : ∀ n v K, laws_eqDeclS.l4.u n v K → loopM C X0 n 28 4 (laws_eqDeclS.l4.s.fill v) K :=
 loop_tell hX (fn := Try.f28) (c := bodyOf Try.f28) (a := loopOf Try.f28 4) (li := liOf (C.fi 28).loops 4) (by kernel_rfl) (by kernel_rfl) (of_decide_eq_true rfl) (by kernel_rfl) (by kernel_rfl) (T := laws_eqDeclS.l4.s) (u := laws_eqDeclS.l4.u) (fun _ _ h => h) (call := D67) (lp := fun n => noL) (D67_ok hX) (fun n => noL_ok) (fun n v K => by kernel_rfl)
theorem laws_eqDeclS_ok : ∀ n v K, laws_eqDeclS.u n v K → callM C X0 n 28 (fillA laws_eqDeclS.a v) K :=
 call_tell hX (fn := Try.f28) (c := bodyOf Try.f28) (by kernel_rfl) (by kernel_rfl) (A := laws_eqDeclS.a) (u := laws_eqDeclS.u) (fun _ _ h => h) (call := D67) (lp := fun n => orL 4 laws_eqDeclS.l4.s (laws_eqDeclS.l4.u n) noL) (D67_ok hX) (fun n => (orL_ok (laws_eqDeclS.l4_ok hX n) noL_ok)) (fun n v K => by kernel_rfl)
def D68 (n : Nat) : CallF := orC 28 laws_eqDeclS.a (laws_eqDeclS.u n) (D67 n)
theorem D68_ok : ∀ n g a K, D68 n g a K → callM C X0 n g a K := fun n => orC_ok (laws_eqDeclS_ok hX n) (D67_ok hX n)
abbrev laws_eqScope.a : List TS := [.a [.o (.int .i64), .o (.dat 81 (.prod (.int .i64) (.prod .bool (.prod (.sl 155 (.prod (.int .i64) (.prod (.int .i64) (.prod (.int .i64) (.prod (.int .i64) (.prod (.int .i64) (.prod (.sl 182 (.int .u64)) (.sl 2 (.int .i64))))))))) (.sl 155 (.prod (.int .i64) (.prod (.int .i64) (.prod (.int .i64) (.prod (.int .i64) (.prod (.int .i64) (.prod (.sl 182 (.int .u64)) (.sl 2 (.int .i64)))))))))))))], .a [.o (.int .i64), .o (.dat 81 (.prod (.int .i64) (.prod .bool (.prod (.sl 155 (.prod (.int .i64) (.prod (.int .i64) (.prod (.int .i64) (.prod (.int .i64) (.prod (.int .i64) (.prod (.sl 182 (.int .u64)) (.sl 2 (.int .i64))))))))) (.sl 155 (.prod (.int .i64) (.prod (.int .i64) (.prod (.int .i64) (.prod (.int .i64) (.prod (.int .i64) (.prod (.sl 182 (.int .u64)) (.sl 2 (.int .i64)))))))))))))]]
def laws_eqScope.u (n : Nat) (v : VA laws_eqScope.a) (K : RES → Prop) : Prop := laws_eqScope.c n v.1.1 v.1.2.1 v.2.1.1 v.2.1.2.1 (fun r0 => K ⟨.c (.bool r0), []⟩)
theorem laws_eqScope_ok : ∀ n v K, laws_eqScope.u n v K → callM C X0 n 110 (fillA laws_eqScope.a v) K :=
 call_tell hX (fn := Try.f110) (c := bodyOf Try.f110) (by kernel_rfl) (by kernel_rfl) (A := laws_eqScope.a) (u := laws_eqScope.u) (fun _ _ h => h) (call := D68) (lp := fun n => noL) (D68_ok hX) (fun n => noL_ok) (fun n v K => by kernel_rfl)
def D69 (n : Nat) : CallF := orC 110 laws_eqScope.a (laws_eqScope.u n) (D68 n)
theorem D69_ok : ∀ n g a K, D69 n g a K → callM C X0 n g a K := fun n => orC_ok (laws_eqScope_ok hX n) (D68_ok hX n)
abbrev laws_eqScopeS.a : List TS := [.c (.o (.dat 91 (.prod (.int .i64) (.sl 81 (.prod (.int .i64) (.prod .bool (.prod (.sl 155 (.prod (.int .i64) (.prod (.int .i64) (.prod (.int .i64) (.prod (.int .i64) (.prod (.int .i64) (.prod (.sl 182 (.int .u64)) (.sl 2 (.int .i64))))))))) (.sl 155 (.prod (.int .i64) (.prod (.int .i64) (.prod (.int .i64) (.prod (.int .i64) (.prod (.int .i64) (.prod (.sl 182 (.int .u64)) (.sl 2 (.int .i64)))))))))))))))), .c (.o (.dat 91 (.prod (.int .i64) (.sl 81 (.prod (.int .i64) (.prod .bool (.prod (.sl 155 (.prod (.int .i64) (.prod (.int .i64) (.prod (.int .i64) (.prod (.int .i64) (.prod (.int .i64) (.prod (.sl 182 (.int .u64)) (.sl 2 (.int .i64))))))))) (.sl 155 (.prod (.int .i64) (.prod (.int .i64) (.prod (.int .i64) (.prod (.int .i64) (.prod (.int .i64) (.prod (.sl 182 (.int .u64)) (.sl 2 (.int .i64))))))))))))))))]
def laws_eqScopeS.u (n : Nat) (v : VA laws_eqScopeS.a) (K : RES → Prop) : Prop := laws_eqScopeS.c n v.1 v.2.1 (fun r0 => K ⟨.c (.bool r0), []⟩)
abbrev laws_eqScopeS.l4.s : ST := ⟨[(0, .c (.o (.dat 91 (.prod (.int .i64) (.sl 81 (.prod (.int .i64) (.prod .bool (.prod (.sl 155 (.prod (.int .i64) (.prod (.int .i64) (.prod (.int .i64) (.prod (.int .i64) (.prod (.int .i64) (.prod (.sl 182 (.int .u64)) (.sl 2 (.int .i64))))))))) (.sl 155 (.prod (.int .i64) (.prod (.int .i64) (.prod (.int .i64) (.prod (.int .i64) (.prod (.int .i64) (.prod (.sl 182 (.int .u64)) (.sl 2 (.int .i64))))))))))))))))), (1, .c (.o (.dat 91 (.prod (.int .i64) (.sl 81 (.prod (.int .i64) (.prod .bool (.prod (.sl 155 (.prod (.int .i64) (.prod (.int .i64) (.prod (.int .i64) (.prod (.int .i64) (.prod (.int .i64) (.prod (.sl 182 (.int .u64)) (.sl 2 (.int .i64))))))))) (.sl 155 (.prod (.int .i64) (.prod (.int .i64) (.prod (.int .i64) (.prod (.int .i64) (.prod (.int .i64) (.prod (.sl 182 (.int .u64)) (.sl 2 (.int .i64))))))))))))))))), (5, .c (.o (.int .i64)))], [], [], [], []⟩
def laws_eqScopeS.l4.u (n : Nat) (v : laws_eqScopeS.l4.s.V) (K : X → St → Prop) : Prop := laws_eqScopeS.l4 n v.1.1 v.1.2.1 v.1.2.2.1 (K (.exit 0) ⟨[], [], [], [], []⟩) (fun y0 => K .ret ⟨[(4, .c (.bool y0))], [], [], [], []⟩)
theorem laws_eqScopeS.l4_ok : ∀ n v K, laws_eqScopeS.l4.u n v K → loopM C X0 n 51 4 (laws_eqScopeS.l4.s.fill v) K :=
 loop_tell hX (fn := Try.f51) (c := bodyOf Try.f51) (a := loopOf Try.f51 4) (li := liOf (C.fi 51).loops 4) (by kernel_rfl) (by kernel_rfl) (of_decide_eq_true rfl) (by kernel_rfl) (by kernel_rfl) (T := laws_eqScopeS.l4.s) (u := laws_eqScopeS.l4.u) (fun _ _ h => h) (call := D69) (lp := fun n => noL) (D69_ok hX) (fun n => noL_ok) (fun n v K => by kernel_rfl)
theorem laws_eqScopeS_ok : ∀ n v K, laws_eqScopeS.u n v K → callM C X0 n 51 (fillA laws_eqScopeS.a v) K :=
 call_tell hX (fn := Try.f51) (c := bodyOf Try.f51) (by kernel_rfl) (by kernel_rfl) (A := laws_eqScopeS.a) (u := laws_eqScopeS.u) (fun _ _ h => h) (call := D69) (lp := fun n => orL 4 laws_eqScopeS.l4.s (laws_eqScopeS.l4.u n) noL) (D69_ok hX) (fun n => (orL_ok (laws_eqScopeS.l4_ok hX n) noL_ok)) (fun n v K => by kernel_rfl)
def D70 (n : Nat) : CallF := orC 51 laws_eqScopeS.a (laws_eqScopeS.u n) (D69 n)
theorem D70_ok : ∀ n g a K, D70 n g a K → callM C X0 n g a K := fun n => orC_ok (laws_eqScopeS_ok hX n) (D69_ok hX n)
abbrev laws_eqSession.a : List TS := [.a [.o (.dat 89 (.prod .str (.int .i64))), .o (.dat 91 (.prod (.int .i64) (.sl 81 (.prod (.int .i64) (.prod .bool (.prod (.sl 155 (.prod (.int .i64) (.prod (.int .i64) (.prod (.int .i64) (.prod (.int .i64) (.prod (.int .i64) (.prod (.sl 182 (.int .u64)) (.sl 2 (.int .i64))))))))) (.sl 155 (.prod (.int .i64) (.prod (.int .i64) (.prod (.int .i64) (.prod (.int .i64) (.prod (.int .i64) (.prod (.sl 182 (.int .u64)) (.sl 2 (.int .i64))))))))))))))), .o (.int .i64)], .a [.o (.dat 89 (.prod .str (.int .i64))), .o (.dat 91 (.prod (.int .i64) (.sl 81 (.prod (.int .i64) (.prod .bool (.prod (.sl 155 (.prod (.int .i64) (.prod (.int .i64) (.prod (.int .i64) (.prod (.int .i64) (.prod (.int .i64) (.prod (.sl 182 (.int .u64)) (.sl 2 (.int .i64))))))))) (.sl 155 (.prod (.int .i64) (.prod (.int .i64) (.prod (.int .i64) (.prod (.int .i64) (.prod (.int .i64) (.prod (.sl 182 (.int .u64)) (.sl 2 (.int .i64))))))))))))))), .o (.int .i64)]]
def laws_eqSession.u (n : Nat) (v : VA laws_eqSession.a) (K : RES → Prop) : Prop := laws_eqSession.c n v.1.1 v.1.2.1 v.1.2.2.1 v.2.1.1 v.2.1.2.1 v.2.1.2.2.1 (fun r0 => K ⟨.c (.bool r0), []⟩)
theorem laws_eqSession_ok : ∀ n v K, laws_eqSession.u n v K → callM C X0 n 13 (fillA laws_eqSession.a v) K :=
 call_tell hX (fn := Try.f13) (c := bodyOf Try.f13) (by kernel_rfl) (by kernel_rfl) (A := laws_eqSession.a) (u := laws_eqSession.u) (fun _ _ h => h) (call := D70) (lp := fun n => noL) (D70_ok hX) (fun n => noL_ok) (fun n v K => by kernel_rfl)
def D71 (n : Nat) : CallF := orC 13 laws_eqSession.a (laws_eqSession.u n) (D70 n)
theorem D71_ok : ∀ n g a K, D71 n g a K → callM C X0 n g a K := fun n => orC_ok (laws_eqSession_ok hX n) (D70_ok hX n)
abbrev laws_markText.a : List TS := [.c (.o (.int .i64))]
def laws_markText.u (n : Nat) (v : VA laws_markText.a) (K : RES → Prop) : Prop := laws_markText.c n v.1 (fun r0 => K ⟨.c (.str r0), []⟩)
abbrev laws_markText.l4.s : ST := ⟨[(0, .c (.o (.int .i64))), (3, .c (.o .str))], [], [], [], []⟩
def laws_markText.l4.u (n : Nat) (v : laws_markText.l4.s.V) (K : X → St → Prop) : Prop := laws_markText.l4 n v.1.1 v.1.2.1 (fun y0 => K (.exit 0) ⟨[(3, .c (.str y0))], [], [], [], []⟩)
theorem laws_markText.l4_ok : ∀ n v K, laws_markText.l4.u n v K → loopM C X0 n 111 4 (laws_markText.l4.s.fill v) K :=
 loop_tell hX (fn := Try.f111) (c := bodyOf Try.f111) (a := loopOf Try.f111 4) (li := liOf (C.fi 111).loops 4) (by kernel_rfl) (by kernel_rfl) (of_decide_eq_true rfl) (by kernel_rfl) (by kernel_rfl) (T := laws_markText.l4.s) (u := laws_markText.l4.u) (fun _ _ h => h) (call := D71) (lp := fun n => noL) (D71_ok hX) (fun n => noL_ok) (fun n v K => by kernel_rfl)
theorem laws_markText_ok : ∀ n v K, laws_markText.u n v K → callM C X0 n 111 (fillA laws_markText.a v) K :=
 call_tell hX (fn := Try.f111) (c := bodyOf Try.f111) (by kernel_rfl) (by kernel_rfl) (A := laws_markText.a) (u := laws_markText.u) (fun _ _ h => h) (call := D71) (lp := fun n => orL 4 laws_markText.l4.s (laws_markText.l4.u n) noL) (D71_ok hX) (fun n => (orL_ok (laws_markText.l4_ok hX n) noL_ok)) (fun n v K => by kernel_rfl)
def D72 (n : Nat) : CallF := orC 111 laws_markText.a (laws_markText.u n) (D71 n)
theorem D72_ok : ∀ n g a K, D72 n g a K → callM C X0 n g a K := fun n => orC_ok (laws_markText_ok hX n) (D71_ok hX n)
abbrev laws_markDeclS.a : List TS := [.c (.o (.row 89 (.prod .str (.int .i64)) 99)), .c (.o (.int .i64))]
def laws_markDeclS.u (n : Nat) (v : VA laws_markDeclS.a) (K : RES → Prop) : Prop := laws_markDeclS.c n v.1 v.2.1 (fun r0 r1 => K ⟨.c (.int .i64 r0), [[.row ⟨89, .prod .str (.int .i64), r1, 99, none⟩]]⟩)
abbrev laws_markDeclS.l2.s : ST := ⟨[(0, .c (.o (.own 0))), (1, .c (.o (.int .i64))), (5, .c (.o (.int .i64)))], [⟨0, 89, .prod .str (.int .i64), 99⟩], [], [0], []⟩
def laws_markDeclS.l2.u (n : Nat) (v : laws_markDeclS.l2.s.V) (K : X → St → Prop) : Prop := laws_markDeclS.l2 n v.1.2.1 v.1.2.2.1 v.2.1.1 (fun y0 y1 => K (.exit 0) ⟨[(1, .c (.int .i64 y0))], [(0, ⟨89, .prod .str (.int .i64), y1, 99, none⟩)], [], [0], []⟩)
theorem laws_markDeclS.l2_ok : ∀ n v K, laws_markDeclS.l2.u n v K → loopM C X0 n 52 2 (laws_markDeclS.l2.s.fill v) K :=
 loop_tell hX (fn := Try.f52) (c := bodyOf Try.f52) (a := loopOf Try.f52 2) (li := liOf (C.fi 52).loops 2) (by kernel_rfl) (by kernel_rfl) (of_decide_eq_true rfl) (by kernel_rfl) (by kernel_rfl) (T := laws_markDeclS.l2.s) (u := laws_markDeclS.l2.u) (fun _ _ h => h) (call := D72) (lp := fun n => noL) (D72_ok hX) (fun n => noL_ok) (fun n v K => by kernel_rfl)
theorem laws_markDeclS_ok : ∀ n v K, laws_markDeclS.u n v K → callM C X0 n 52 (fillA laws_markDeclS.a v) K :=
 call_tell hX (fn := Try.f52) (c := bodyOf Try.f52) (by kernel_rfl) (by kernel_rfl) (A := laws_markDeclS.a) (u := laws_markDeclS.u) (fun _ _ h => h) (call := D72) (lp := fun n => orL 2 laws_markDeclS.l2.s (laws_markDeclS.l2.u n) noL) (D72_ok hX) (fun n => (orL_ok (laws_markDeclS.l2_ok hX n) noL_ok)) (fun n v K => by kernel_rfl)
def D73 (n : Nat) : CallF := orC 52 laws_markDeclS.a (laws_markDeclS.u n) (D72 n)
theorem D73_ok : ∀ n g a K, D73 n g a K → callM C X0 n g a K := fun n => orC_ok (laws_markDeclS_ok hX n) (D72_ok hX n)
abbrev laws_markUint64S.a : List TS := [.c (.o (.row 182 (.int .u64) 96)), .c (.o (.int .i64))]
def laws_markUint64S.u (n : Nat) (v : VA laws_markUint64S.a) (K : RES → Prop) : Prop := laws_markUint64S.c n v.1 v.2.1 (fun r0 r1 => K ⟨.c (.int .i64 r0), [[.row ⟨182, .int .u64, r1, 96, none⟩]]⟩)
abbrev laws_markUint64S.l2.s : ST := ⟨[(0, .c (.o (.own 0))), (1, .c (.o (.int .i64))), (5, .c (.o (.int .i64)))], [⟨0, 182, .int .u64, 96⟩], [], [0], []⟩
def laws_markUint64S.l2.u (n : Nat) (v : laws_markUint64S.l2.s.V) (K : X → St → Prop) : Prop := laws_markUint64S.l2 n v.1.2.1 v.1.2.2.1 v.2.1.1 (fun y0 y1 => K (.exit 0) ⟨[(1, .c (.int .i64 y0))], [(0, ⟨182, .int .u64, y1, 96, none⟩)], [], [0], []⟩)
theorem laws_markUint64S.l2_ok : ∀ n v K, laws_markUint64S.l2.u n v K → loopM C X0 n 112 2 (laws_markUint64S.l2.s.fill v) K :=
 loop_tell hX (fn := Try.f112) (c := bodyOf Try.f112) (a := loopOf Try.f112 2) (li := liOf (C.fi 112).loops 2) (by kernel_rfl) (by kernel_rfl) (of_decide_eq_true rfl) (by kernel_rfl) (by kernel_rfl) (T := laws_markUint64S.l2.s) (u := laws_markUint64S.l2.u) (fun _ _ h => h) (call := D73) (lp := fun n => noL) (D73_ok hX) (fun n => noL_ok) (fun n v K => by kernel_rfl)
theorem laws_markUint64S_ok : ∀ n v K, laws_markUint64S.u n v K → callM C X0 n 112 (fillA laws_markUint64S.a v) K :=
 call_tell hX (fn := Try.f112) (c := bodyOf Try.f112) (by kernel_rfl) (by kernel_rfl) (A := laws_markUint64S.a) (u := laws_markUint64S.u) (fun _ _ h => h) (call := D73) (lp := fun n => orL 2 laws_markUint64S.l2.s (laws_markUint64S.l2.u n) noL) (D73_ok hX) (fun n => (orL_ok (laws_markUint64S.l2_ok hX n) noL_ok)) (fun n v K => by kernel_rfl)
def D74 (n : Nat) : CallF := orC 112 laws_markUint64S.a (laws_markUint64S.u n) (D73 n)
theorem D74_ok : ∀ n g a K, D74 n g a K → callM C X0 n g a K := fun n => orC_ok (laws_markUint64S_ok hX n) (D73_ok hX n)
abbrev laws_markInt64S.a : List TS := [.c (.o (.row 2 (.int .i64) 96)), .c (.o (.int .i64))]
def laws_markInt64S.u (n : Nat) (v : VA laws_markInt64S.a) (K : RES → Prop) : Prop := laws_markInt64S.c n v.1 v.2.1 (fun r0 r1 => K ⟨.c (.int .i64 r0), [[.row ⟨2, .int .i64, r1, 96, none⟩]]⟩)
abbrev laws_markInt64S.l2.s : ST := ⟨[(0, .c (.o (.own 0))), (1, .c (.o (.int .i64))), (5, .c (.o (.int .i64)))], [⟨0, 2, .int .i64, 96⟩], [], [0], []⟩
def laws_markInt64S.l2.u (n : Nat) (v : laws_markInt64S.l2.s.V) (K : X → St → Prop) : Prop := laws_markInt64S.l2 n v.1.2.1 v.1.2.2.1 v.2.1.1 (fun y0 y1 => K (.exit 0) ⟨[(1, .c (.int .i64 y0))], [(0, ⟨2, .int .i64, y1, 96, none⟩)], [], [0], []⟩)
theorem laws_markInt64S.l2_ok : ∀ n v K, laws_markInt64S.l2.u n v K → loopM C X0 n 113 2 (laws_markInt64S.l2.s.fill v) K :=
 loop_tell hX (fn := Try.f113) (c := bodyOf Try.f113) (a := loopOf Try.f113 2) (li := liOf (C.fi 113).loops 2) (by kernel_rfl) (by kernel_rfl) (of_decide_eq_true rfl) (by kernel_rfl) (by kernel_rfl) (T := laws_markInt64S.l2.s) (u := laws_markInt64S.l2.u) (fun _ _ h => h) (call := D74) (lp := fun n => noL) (D74_ok hX) (fun n => noL_ok) (fun n v K => by kernel_rfl)
theorem laws_markInt64S_ok : ∀ n v K, laws_markInt64S.u n v K → callM C X0 n 113 (fillA laws_markInt64S.a v) K :=
 call_tell hX (fn := Try.f113) (c := bodyOf Try.f113) (by kernel_rfl) (by kernel_rfl) (A := laws_markInt64S.a) (u := laws_markInt64S.u) (fun _ _ h => h) (call := D74) (lp := fun n => orL 2 laws_markInt64S.l2.s (laws_markInt64S.l2.u n) noL) (D74_ok hX) (fun n => (orL_ok (laws_markInt64S.l2_ok hX n) noL_ok)) (fun n v K => by kernel_rfl)
def D75 (n : Nat) : CallF := orC 113 laws_markInt64S.a (laws_markInt64S.u n) (D74 n)
theorem D75_ok : ∀ n g a K, D75 n g a K → callM C X0 n g a K := fun n => orC_ok (laws_markInt64S_ok hX n) (D74_ok hX n)
abbrev laws_markTNodeS.a : List TS := [.c (.o (.row 155 (.prod (.int .i64) (.prod (.int .i64) (.prod (.int .i64) (.prod (.int .i64) (.prod (.int .i64) (.prod (.sl 182 (.int .u64)) (.sl 2 (.int .i64)))))))) 97)), .c (.o (.int .i64))]
def laws_markTNodeS.u (n : Nat) (v : VA laws_markTNodeS.a) (K : RES → Prop) : Prop := laws_markTNodeS.c n v.1 v.2.1 (fun r0 r1 => K ⟨.c (.int .i64 r0), [[.row ⟨155, .prod (.int .i64) (.prod (.int .i64) (.prod (.int .i64) (.prod (.int .i64) (.prod (.int .i64) (.prod (.sl 182 (.int .u64)) (.sl 2 (.int .i64))))))), r1, 97, none⟩]]⟩)
abbrev laws_markTNodeS.l2.s : ST := ⟨[(0, .c (.o (.own 0))), (1, .c (.o (.int .i64))), (5, .c (.o (.int .i64)))], [⟨0, 155, .prod (.int .i64) (.prod (.int .i64) (.prod (.int .i64) (.prod (.int .i64) (.prod (.int .i64) (.prod (.sl 182 (.int .u64)) (.sl 2 (.int .i64))))))), 97⟩], [], [0], []⟩
def laws_markTNodeS.l2.u (n : Nat) (v : laws_markTNodeS.l2.s.V) (K : X → St → Prop) : Prop := laws_markTNodeS.l2 n v.1.2.1 v.1.2.2.1 v.2.1.1 (fun y0 y1 => K (.exit 0) ⟨[(1, .c (.int .i64 y0))], [(0, ⟨155, .prod (.int .i64) (.prod (.int .i64) (.prod (.int .i64) (.prod (.int .i64) (.prod (.int .i64) (.prod (.sl 182 (.int .u64)) (.sl 2 (.int .i64))))))), y1, 97, none⟩)], [], [0], []⟩)
theorem laws_markTNodeS.l2_ok : ∀ n v K, laws_markTNodeS.l2.u n v K → loopM C X0 n 54 2 (laws_markTNodeS.l2.s.fill v) K :=
 loop_tell hX (fn := Try.f54) (c := bodyOf Try.f54) (a := loopOf Try.f54 2) (li := liOf (C.fi 54).loops 2) (by kernel_rfl) (by kernel_rfl) (of_decide_eq_true rfl) (by kernel_rfl) (by kernel_rfl) (T := laws_markTNodeS.l2.s) (u := laws_markTNodeS.l2.u) (fun _ _ h => h) (call := D75) (lp := fun n => noL) (D75_ok hX) (fun n => noL_ok) (fun n v K => by kernel_rfl)
theorem laws_markTNodeS_ok : ∀ n v K, laws_markTNodeS.u n v K → callM C X0 n 54 (fillA laws_markTNodeS.a v) K :=
 call_tell hX (fn := Try.f54) (c := bodyOf Try.f54) (by kernel_rfl) (by kernel_rfl) (A := laws_markTNodeS.a) (u := laws_markTNodeS.u) (fun _ _ h => h) (call := D75) (lp := fun n => orL 2 laws_markTNodeS.l2.s (laws_markTNodeS.l2.u n) noL) (D75_ok hX) (fun n => (orL_ok (laws_markTNodeS.l2_ok hX n) noL_ok)) (fun n v K => by kernel_rfl)
def D76 (n : Nat) : CallF := orC 54 laws_markTNodeS.a (laws_markTNodeS.u n) (D75 n)
theorem D76_ok : ∀ n g a K, D76 n g a K → callM C X0 n g a K := fun n => orC_ok (laws_markTNodeS_ok hX n) (D75_ok hX n)
abbrev laws_markLiteralS.a : List TS := [.c (.o (.row 81 (.prod (.int .i64) (.prod .bool (.prod (.sl 155 (.prod (.int .i64) (.prod (.int .i64) (.prod (.int .i64) (.prod (.int .i64) (.prod (.int .i64) (.prod (.sl 182 (.int .u64)) (.sl 2 (.int .i64))))))))) (.sl 155 (.prod (.int .i64) (.prod (.int .i64) (.prod (.int .i64) (.prod (.int .i64) (.prod (.int .i64) (.prod (.sl 182 (.int .u64)) (.sl 2 (.int .i64)))))))))))) 98)), .c (.o (.int .i64))]
def laws_markLiteralS.u (n : Nat) (v : VA laws_markLiteralS.a) (K : RES → Prop) : Prop := laws_markLiteralS.c n v.1 v.2.1 (fun r0 r1 => K ⟨.c (.int .i64 r0), [[.row ⟨81, .prod (.int .i64) (.prod .bool (.prod (.sl 155 (.prod (.int .i64) (.prod (.int .i64) (.prod (.int .i64) (.prod (.int .i64) (.prod (.int .i64) (.prod (.sl 182 (.int .u64)) (.sl 2 (.int .i64))))))))) (.sl 155 (.prod (.int .i64) (.prod (.int .i64) (.prod (.int .i64) (.prod (.int .i64) (.prod (.int .i64) (.prod (.sl 182 (.int .u64)) (.sl 2 (.int .i64))))))))))), r1, 98, none⟩]]⟩)
abbrev laws_markLiteralS.l2.s : ST := ⟨[(0, .c (.o (.own 0))), (1, .c (.o (.int .i64))), (5, .c (.o (.int .i64)))], [⟨0, 81, .prod (.int .i64) (.prod .bool (.prod (.sl 155 (.prod (.int .i64) (.prod (.int .i64) (.prod (.int .i64) (.prod (.int .i64) (.prod (.int .i64) (.prod (.sl 182 (.int .u64)) (.sl 2 (.int .i64))))))))) (.sl 155 (.prod (.int .i64) (.prod (.int .i64) (.prod (.int .i64) (.prod (.int .i64) (.prod (.int .i64) (.prod (.sl 182 (.int .u64)) (.sl 2 (.int .i64))))))))))), 98⟩], [], [0], []⟩
def laws_markLiteralS.l2.u (n : Nat) (v : laws_markLiteralS.l2.s.V) (K : X → St → Prop) : Prop := laws_markLiteralS.l2 n v.1.2.1 v.1.2.2.1 v.2.1.1 (fun y0 y1 => K (.exit 0) ⟨[(1, .c (.int .i64 y0))], [(0, ⟨81, .prod (.int .i64) (.prod .bool (.prod (.sl 155 (.prod (.int .i64) (.prod (.int .i64) (.prod (.int .i64) (.prod (.int .i64) (.prod (.int .i64) (.prod (.sl 182 (.int .u64)) (.sl 2 (.int .i64))))))))) (.sl 155 (.prod (.int .i64) (.prod (.int .i64) (.prod (.int .i64) (.prod (.int .i64) (.prod (.int .i64) (.prod (.sl 182 (.int .u64)) (.sl 2 (.int .i64))))))))))), y1, 98, none⟩)], [], [0], []⟩)
theorem laws_markLiteralS.l2_ok : ∀ n v K, laws_markLiteralS.l2.u n v K → loopM C X0 n 15 2 (laws_markLiteralS.l2.s.fill v) K :=
 loop_tell hX (fn := Try.f15) (c := bodyOf Try.f15) (a := loopOf Try.f15 2) (li := liOf (C.fi 15).loops 2) (by kernel_rfl) (by kernel_rfl) (of_decide_eq_true rfl) (by kernel_rfl) (by kernel_rfl) (T := laws_markLiteralS.l2.s) (u := laws_markLiteralS.l2.u) (fun _ _ h => h) (call := D76) (lp := fun n => noL) (D76_ok hX) (fun n => noL_ok) (fun n v K => by kernel_rfl)
theorem laws_markLiteralS_ok : ∀ n v K, laws_markLiteralS.u n v K → callM C X0 n 15 (fillA laws_markLiteralS.a v) K :=
 call_tell hX (fn := Try.f15) (c := bodyOf Try.f15) (by kernel_rfl) (by kernel_rfl) (A := laws_markLiteralS.a) (u := laws_markLiteralS.u) (fun _ _ h => h) (call := D76) (lp := fun n => orL 2 laws_markLiteralS.l2.s (laws_markLiteralS.l2.u n) noL) (D76_ok hX) (fun n => (orL_ok (laws_markLiteralS.l2_ok hX n) noL_ok)) (fun n v K => by kernel_rfl)
def D77 (n : Nat) : CallF := orC 15 laws_markLiteralS.a (laws_markLiteralS.u n) (D76 n)
theorem D77_ok : ∀ n g a K, D77 n g a K → callM C X0 n g a K := fun n => orC_ok (laws_markLiteralS_ok hX n) (D76_ok hX n)
abbrev laws_markScopeS.a : List TS := [.c (.o (.row 91 (.prod (.int .i64) (.sl 81 (.prod (.int .i64) (.prod .bool (.prod (.sl 155 (.prod (.int .i64) (.prod (.int .i64) (.prod (.int .i64) (.prod (.int .i64) (.prod (.int .i64) (.prod (.sl 182 (.int .u64)) (.sl 2 (.int .i64))))))))) (.sl 155 (.prod (.int .i64) (.prod (.int .i64) (.prod (.int .i64) (.prod (.int .i64) (.prod (.int .i64) (.prod (.sl 182 (.int .u64)) (.sl 2 (.int .i64)))))))))))))) 99)), .c (.o (.int .i64))]
def laws_markScopeS.u (n : Nat) (v : VA laws_markScopeS.a) (K : RES → Prop) : Prop := laws_markScopeS.c n v.1 v.2.1 (fun r0 r1 => K ⟨.c (.int .i64 r0), [[.row ⟨91, .prod (.int .i64) (.sl 81 (.prod (.int .i64) (.prod .bool (.prod (.sl 155 (.prod (.int .i64) (.prod (.int .i64) (.prod (.int .i64) (.prod (.int .i64) (.prod (.int .i64) (.prod (.sl 182 (.int .u64)) (.sl 2 (.int .i64))))))))) (.sl 155 (.prod (.int .i64) (.prod (.int .i64) (.prod (.int .i64) (.prod (.int .i64) (.prod (.int .i64) (.prod (.sl 182 (.int .u64)) (.sl 2 (.int .i64))))))))))))), r1, 99, none⟩]]⟩)
abbrev laws_markScopeS.l2.s : ST := ⟨[(0, .c (.o (.own 0))), (1, .c (.o (.int .i64))), (5, .c (.o (.int .i64)))], [⟨0, 91, .prod (.int .i64) (.sl 81 (.prod (.int .i64) (.prod .bool (.prod (.sl 155 (.prod (.int .i64) (.prod (.int .i64) (.prod (.int .i64) (.prod (.int .i64) (.prod (.int .i64) (.prod (.sl 182 (.int .u64)) (.sl 2 (.int .i64))))))))) (.sl 155 (.prod (.int .i64) (.prod (.int .i64) (.prod (.int .i64) (.prod (.int .i64) (.prod (.int .i64) (.prod (.sl 182 (.int .u64)) (.sl 2 (.int .i64))))))))))))), 99⟩], [], [0], []⟩
def laws_markScopeS.l2.u (n : Nat) (v : laws_markScopeS.l2.s.V) (K : X → St → Prop) : Prop := laws_markScopeS.l2 n v.1.2.1 v.1.2.2.1 v.2.1.1 (fun y0 y1 => K (.exit 0) ⟨[(1, .c (.int .i64 y0))], [(0, ⟨91, .prod (.int .i64) (.sl 81 (.prod (.int .i64) (.prod .bool (.prod (.sl 155 (.prod (.int .i64) (.prod (.int .i64) (.prod (.int .i64) (.prod (.int .i64) (.prod (.int .i64) (.prod (.sl 182 (.int .u64)) (.sl 2 (.int .i64))))))))) (.sl 155 (.prod (.int .i64) (.prod (.int .i64) (.prod (.int .i64) (.prod (.int .i64) (.prod (.int .i64) (.prod (.sl 182 (.int .u64)) (.sl 2 (.int .i64))))))))))))), y1, 99, none⟩)], [], [0], []⟩)
theorem laws_markScopeS.l2_ok : ∀ n v K, laws_markScopeS.l2.u n v K → loopM C X0 n 53 2 (laws_markScopeS.l2.s.fill v) K :=
 loop_tell hX (fn := Try.f53) (c := bodyOf Try.f53) (a := loopOf Try.f53 2) (li := liOf (C.fi 53).loops 2) (by kernel_rfl) (by kernel_rfl) (of_decide_eq_true rfl) (by kernel_rfl) (by kernel_rfl) (T := laws_markScopeS.l2.s) (u := laws_markScopeS.l2.u) (fun _ _ h => h) (call := D77) (lp := fun n => noL) (D77_ok hX) (fun n => noL_ok) (fun n v K => by kernel_rfl)
theorem laws_markScopeS_ok : ∀ n v K, laws_markScopeS.u n v K → callM C X0 n 53 (fillA laws_markScopeS.a v) K :=
 call_tell hX (fn := Try.f53) (c := bodyOf Try.f53) (by kernel_rfl) (by kernel_rfl) (A := laws_markScopeS.a) (u := laws_markScopeS.u) (fun _ _ h => h) (call := D77) (lp := fun n => orL 2 laws_markScopeS.l2.s (laws_markScopeS.l2.u n) noL) (D77_ok hX) (fun n => (orL_ok (laws_markScopeS.l2_ok hX n) noL_ok)) (fun n v K => by kernel_rfl)
def D78 (n : Nat) : CallF := orC 53 laws_markScopeS.a (laws_markScopeS.u n) (D77 n)
theorem D78_ok : ∀ n g a K, D78 n g a K → callM C X0 n g a K := fun n => orC_ok (laws_markScopeS_ok hX n) (D77_ok hX n)
abbrev laws_markSession.a : List TS := [.a [.o (.row 89 (.prod .str (.int .i64)) 99), .o (.row 91 (.prod (.int .i64) (.sl 81 (.prod (.int .i64) (.prod .bool (.prod (.sl 155 (.prod (.int .i64) (.prod (.int .i64) (.prod (.int .i64) (.prod (.int .i64) (.prod (.int .i64) (.prod (.sl 182 (.int .u64)) (.sl 2 (.int .i64))))))))) (.sl 155 (.prod (.int .i64) (.prod (.int .i64) (.prod (.int .i64) (.prod (.int .i64) (.prod (.int .i64) (.prod (.sl 182 (.int .u64)) (.sl 2 (.int .i64)))))))))))))) 99), .o (.int .i64)], .c (.o (.int .i64))]
def laws_markSession.u (n : Nat) (v : VA laws_markSession.a) (K : RES → Prop) : Prop := laws_markSession.c n v.1.1 v.1.2.1 v.1.2.2.1 v.2.1 (fun r0 r1 r2 r3 => K ⟨.c (.int .i64 r0), [[.row ⟨89, .prod .str (.int .i64), r1, 99, none⟩, .row ⟨91, .prod (.int .i64) (.sl 81 (.prod (.int .i64) (.prod .bool (.prod (.sl 155 (.prod (.int .i64) (.prod (.int .i64) (.prod (.int .i64) (.prod (.int .i64) (.prod (.int .i64) (.prod (.sl 182 (.int .u64)) (.sl 2 (.int .i64))))))))) (.sl 155 (.prod (.int .i64) (.prod (.int .i64) (.prod (.int .i64) (.prod (.int .i64) (.prod (.int .i64) (.prod (.sl 182 (.int .u64)) (.sl 2 (.int .i64))))))))))))), r2, 99, none⟩, .int .i64 r3]]⟩)
theorem laws_markSession_ok : ∀ n v K, laws_markSession.u n v K → callM C X0 n 14 (fillA laws_markSession.a v) K :=
 call_tell hX (fn := Try.f14) (c := bodyOf Try.f14) (by kernel_rfl) (by kernel_rfl) (A := laws_markSession.a) (u := laws_markSession.u) (fun _ _ h => h) (call := D78) (lp := fun n => noL) (D78_ok hX) (fun n => noL_ok) (fun n v K => by kernel_rfl)
def D79 (n : Nat) : CallF := orC 14 laws_markSession.a (laws_markSession.u n) (D78 n)
theorem D79_ok : ∀ n g a K, D79 n g a K → callM C X0 n g a K := fun n => orC_ok (laws_markSession_ok hX n) (D78_ok hX n)
abbrev spec_l22Put.a : List TS := [.c (.o (.row 5 (.int .u8) 99)), .c (.o (.int .i64))]
def spec_l22Put.u (n : Nat) (v : VA spec_l22Put.a) (K : RES → Prop) : Prop := spec_l22Put.c n v.1 v.2.1 (fun r0 => K ⟨.c (.row ⟨5, .int .u8, r0, 99, none⟩), []⟩)
abbrev spec_l22Put.l1.s : ST := ⟨[(0, .c (.o (.own 0))), (1, .c (.o (.int .i64)))], [⟨0, 5, .int .u8, 99⟩], [], [], []⟩
def spec_l22Put.l1.u (n : Nat) (v : spec_l22Put.l1.s.V) (K : X → St → Prop) : Prop := spec_l22Put.l1 n v.1.2.1 v.2.1.1 (fun y0 y1 => K (.exit 0) ⟨[(0, .c (.own 0)), (1, .c (.int .i64 y0))], [(0, ⟨5, .int .u8, y1, 99, none⟩)], [], [], []⟩)
theorem spec_l22Put.l1_ok : ∀ n v K, spec_l22Put.l1.u n v K → loopM C X0 n 56 1 (spec_l22Put.l1.s.fill v) K :=
 loop_tell hX (fn := Try.f56) (c := bodyOf Try.f56) (a := loopOf Try.f56 1) (li := liOf (C.fi 56).loops 1) (by kernel_rfl) (by kernel_rfl) (of_decide_eq_true rfl) (by kernel_rfl) (by kernel_rfl) (T := spec_l22Put.l1.s) (u := spec_l22Put.l1.u) (fun _ _ h => h) (call := D79) (lp := fun n => noL) (D79_ok hX) (fun n => noL_ok) (fun n v K => by kernel_rfl)
theorem spec_l22Put_ok : ∀ n v K, spec_l22Put.u n v K → callM C X0 n 56 (fillA spec_l22Put.a v) K :=
 call_tell hX (fn := Try.f56) (c := bodyOf Try.f56) (by kernel_rfl) (by kernel_rfl) (A := spec_l22Put.a) (u := spec_l22Put.u) (fun _ _ h => h) (call := D79) (lp := fun n => orL 1 spec_l22Put.l1.s (spec_l22Put.l1.u n) noL) (D79_ok hX) (fun n => (orL_ok (spec_l22Put.l1_ok hX n) noL_ok)) (fun n v K => by kernel_rfl)
def D80 (n : Nat) : CallF := orC 56 spec_l22Put.a (spec_l22Put.u n) (D79 n)
theorem D80_ok : ∀ n g a K, D80 n g a K → callM C X0 n g a K := fun n => orC_ok (spec_l22Put_ok hX n) (D79_ok hX n)
abbrev spec_l22PutText.a : List TS := [.c (.o (.row 5 (.int .u8) 99)), .c (.o .str)]
def spec_l22PutText.u (n : Nat) (v : VA spec_l22PutText.a) (K : RES → Prop) : Prop := spec_l22PutText.c n v.1 v.2.1 (fun r0 => K ⟨.c (.row ⟨5, .int .u8, r0, 99, none⟩), []⟩)
theorem spec_l22PutText_ok : ∀ n v K, spec_l22PutText.u n v K → callM C X0 n 57 (fillA spec_l22PutText.a v) K :=
 call_tell hX (fn := Try.f57) (c := bodyOf Try.f57) (by kernel_rfl) (by kernel_rfl) (A := spec_l22PutText.a) (u := spec_l22PutText.u) (fun _ _ h => h) (call := D80) (lp := fun n => noL) (D80_ok hX) (fun n => noL_ok) (fun n v K => by kernel_rfl)
def D81 (n : Nat) : CallF := orC 57 spec_l22PutText.a (spec_l22PutText.u n) (D80 n)
theorem D81_ok : ∀ n g a K, D81 n g a K → callM C X0 n g a K := fun n => orC_ok (spec_l22PutText_ok hX n) (D80_ok hX n)
abbrev spec_l22PutBits.a : List TS := [.c (.o (.row 5 (.int .u8) 99)), .a [.o (.int .i64), .o (.dat 182 (.int .u64))]]
def spec_l22PutBits.u (n : Nat) (v : VA spec_l22PutBits.a) (K : RES → Prop) : Prop := spec_l22PutBits.c n v.1 v.2.1.1 v.2.1.2.1 (fun r0 => K ⟨.c (.row ⟨5, .int .u8, r0, 99, none⟩), []⟩)
abbrev spec_l22PutBits.l7.s : ST := ⟨[(0, .c (.o (.own 0))), (3, .c (.o (.pbox 3 0))), (5, .c (.o (.int .i64))), (6, .c (.o (.int .u8))), (7, .c (.o (.int .i64)))], [⟨0, 5, .int .u8, 99⟩], [⟨3, 59, [.o (.int .i64), .o (.dat 182 (.int .u64))], false⟩], [], []⟩
def spec_l22PutBits.l7.u (n : Nat) (v : spec_l22PutBits.l7.s.V) (K : X → St → Prop) : Prop := spec_l22PutBits.l7 n v.1.2.2.1 v.2.1.1 v.2.2.1.1 v.2.2.1.2.1 v.1.2.2.2.1 v.1.2.2.2.2.1 (fun y0 y1 y2 y3 y4 => K (.exit 2) ⟨[(0, .c (.own 0)), (3, .c (.pbox 3 0)), (5, .c (.int .i64 y0)), (6, .c (.int .u8 y1))], [(0, ⟨5, .int .u8, y2, 99, none⟩)], [(3, ⟨59, [.int .i64 y3, .dat 182 (.int .u64) y4], false⟩)], [], []⟩)
abbrev spec_l22PutBits.l3.s : ST := ⟨[(0, .c (.o (.own 0))), (3, .c (.o (.pbox 3 0))), (5, .c (.o (.int .i64)))], [⟨0, 5, .int .u8, 99⟩], [⟨3, 59, [.o (.int .i64), .o (.dat 182 (.int .u64))], false⟩], [], []⟩
def spec_l22PutBits.l3.u (n : Nat) (v : spec_l22PutBits.l3.s.V) (K : X → St → Prop) : Prop := spec_l22PutBits.l3 n v.1.2.2.1 v.2.1.1 v.2.2.1.1 v.2.2.1.2.1 (fun y0 => K (.exit 0) ⟨[(0, .c (.own 0))], [(0, ⟨5, .int .u8, y0, 99, none⟩)], [], [], []⟩)
theorem spec_l22PutBits.l7_ok : ∀ n v K, spec_l22PutBits.l7.u n v K → loopM C X0 n 116 7 (spec_l22PutBits.l7.s.fill v) K :=
 loop_tell hX (fn := Try.f116) (c := bodyOf Try.f116) (a := loopOf Try.f116 7) (li := liOf (C.fi 116).loops 7) (by kernel_rfl) (by kernel_rfl) (of_decide_eq_true rfl) (by kernel_rfl) (by kernel_rfl) (T := spec_l22PutBits.l7.s) (u := spec_l22PutBits.l7.u) (fun _ _ h => h) (call := D81) (lp := fun n => noL) (D81_ok hX) (fun n => noL_ok) (fun n v K => by kernel_rfl)
theorem spec_l22PutBits.l3_ok : ∀ n v K, spec_l22PutBits.l3.u n v K → loopM C X0 n 116 3 (spec_l22PutBits.l3.s.fill v) K :=
 loop_tell hX (fn := Try.f116) (c := bodyOf Try.f116) (a := loopOf Try.f116 3) (li := liOf (C.fi 116).loops 3) (by kernel_rfl) (by kernel_rfl) (of_decide_eq_true rfl) (by kernel_rfl) (by kernel_rfl) (T := spec_l22PutBits.l3.s) (u := spec_l22PutBits.l3.u) (fun _ _ h => h) (call := D81) (lp := fun n => orL 7 spec_l22PutBits.l7.s (spec_l22PutBits.l7.u n) noL) (D81_ok hX) (fun n => (orL_ok (spec_l22PutBits.l7_ok hX n) noL_ok)) (fun n v K => by kernel_rfl)
theorem spec_l22PutBits_ok : ∀ n v K, spec_l22PutBits.u n v K → callM C X0 n 116 (fillA spec_l22PutBits.a v) K :=
 call_tell hX (fn := Try.f116) (c := bodyOf Try.f116) (by kernel_rfl) (by kernel_rfl) (A := spec_l22PutBits.a) (u := spec_l22PutBits.u) (fun _ _ h => h) (call := D81) (lp := fun n => orL 3 spec_l22PutBits.l3.s (spec_l22PutBits.l3.u n) noL) (D81_ok hX) (fun n => (orL_ok (spec_l22PutBits.l3_ok hX n) noL_ok)) (fun n v K => by kernel_rfl)
def D82 (n : Nat) : CallF := orC 116 spec_l22PutBits.a (spec_l22PutBits.u n) (D81 n)
theorem D82_ok : ∀ n g a K, D82 n g a K → callM C X0 n g a K := fun n => orC_ok (spec_l22PutBits_ok hX n) (D81_ok hX n)
abbrev spec_l22PutTerm.a : List TS := [.c (.o (.row 5 (.int .u8) 99)), .a [.o (.dat 155 (.prod (.int .i64) (.prod (.int .i64) (.prod (.int .i64) (.prod (.int .i64) (.prod (.int .i64) (.prod (.sl 182 (.int .u64)) (.sl 2 (.int .i64)))))))))]]
def spec_l22PutTerm.u (n : Nat) (v : VA spec_l22PutTerm.a) (K : RES → Prop) : Prop := spec_l22PutTerm.c n v.1 v.2.1.1 (fun r0 => K ⟨.c (.row ⟨5, .int .u8, r0, 99, none⟩), []⟩)
abbrev spec_l22PutTerm.l10.s : ST := ⟨[(0, .c (.o (.own 0))), (3, .c (.o (.pbox 3 0))), (5, .c (.o (.int .i64))), (6, .c (.o (.pbox 6 0))), (7, .c (.o (.int .i64)))], [⟨0, 5, .int .u8, 99⟩], [⟨3, 79, [.o (.dat 155 (.prod (.int .i64) (.prod (.int .i64) (.prod (.int .i64) (.prod (.int .i64) (.prod (.int .i64) (.prod (.sl 182 (.int .u64)) (.sl 2 (.int .i64)))))))))], false⟩, ⟨6, 155, [.o (.int .i64), .o (.int .i64), .o (.int .i64), .o (.int .i64), .o (.int .i64), .o (.dat 182 (.int .u64)), .o (.dat 2 (.int .i64))], false⟩], [], []⟩
def spec_l22PutTerm.l10.u (n : Nat) (v : spec_l22PutTerm.l10.s.V) (K : X → St → Prop) : Prop := spec_l22PutTerm.l10 n v.1.2.2.1 v.2.2.1.1 v.2.2.2.1.1 v.2.2.2.1.2.1 v.2.2.2.1.2.2.1 v.2.2.2.1.2.2.2.1 v.2.2.2.1.2.2.2.2.1 v.2.2.2.1.2.2.2.2.2.1 v.2.2.2.1.2.2.2.2.2.2.1 v.1.2.2.2.2.1 v.2.1.1 (fun y0 y1 y2 => K (.exit 2) ⟨[(0, .c (.own 0)), (3, .c (.pbox 3 0)), (5, .c (.int .i64 y0))], [(0, ⟨5, .int .u8, y1, 99, none⟩)], [(3, ⟨79, [.dat 155 (.prod (.int .i64) (.prod (.int .i64) (.prod (.int .i64) (.prod (.int .i64) (.prod (.int .i64) (.prod (.sl 182 (.int .u64)) (.sl 2 (.int .i64)))))))) y2], false⟩)], [], []⟩)
abbrev spec_l22PutTerm.l3.s : ST := ⟨[(0, .c (.o (.own 0))), (3, .c (.o (.pbox 3 0))), (5, .c (.o (.int .i64)))], [⟨0, 5, .int .u8, 99⟩], [⟨3, 79, [.o (.dat 155 (.prod (.int .i64) (.prod (.int .i64) (.prod (.int .i64) (.prod (.int .i64) (.prod (.int .i64) (.prod (.sl 182 (.int .u64)) (.sl 2 (.int .i64)))))))))], false⟩], [], []⟩
def spec_l22PutTerm.l3.u (n : Nat) (v : spec_l22PutTerm.l3.s.V) (K : X → St → Prop) : Prop := spec_l22PutTerm.l3 n v.1.2.2.1 v.2.1.1 v.2.2.1.1 (fun y0 => K (.exit 0) ⟨[(0, .c (.own 0))], [(0, ⟨5, .int .u8, y0, 99, none⟩)], [], [], []⟩)
theorem spec_l22PutTerm.l10_ok : ∀ n v K, spec_l22PutTerm.l10.u n v K → loopM C X0 n 58 10 (spec_l22PutTerm.l10.s.fill v) K :=
 loop_tell hX (fn := Try.f58) (c := bodyOf Try.f58) (a := loopOf Try.f58 10) (li := liOf (C.fi 58).loops 10) (by kernel_rfl) (by kernel_rfl) (of_decide_eq_true rfl) (by kernel_rfl) (by kernel_rfl) (T := spec_l22PutTerm.l10.s) (u := spec_l22PutTerm.l10.u) (fun _ _ h => h) (call := D82) (lp := fun n => noL) (D82_ok hX) (fun n => noL_ok) (fun n v K => by kernel_rfl)
theorem spec_l22PutTerm.l3_ok : ∀ n v K, spec_l22PutTerm.l3.u n v K → loopM C X0 n 58 3 (spec_l22PutTerm.l3.s.fill v) K :=
 loop_tell hX (fn := Try.f58) (c := bodyOf Try.f58) (a := loopOf Try.f58 3) (li := liOf (C.fi 58).loops 3) (by kernel_rfl) (by kernel_rfl) (of_decide_eq_true rfl) (by kernel_rfl) (by kernel_rfl) (T := spec_l22PutTerm.l3.s) (u := spec_l22PutTerm.l3.u) (fun _ _ h => h) (call := D82) (lp := fun n => orL 10 spec_l22PutTerm.l10.s (spec_l22PutTerm.l10.u n) noL) (D82_ok hX) (fun n => (orL_ok (spec_l22PutTerm.l10_ok hX n) noL_ok)) (fun n v K => by kernel_rfl)
theorem spec_l22PutTerm_ok : ∀ n v K, spec_l22PutTerm.u n v K → callM C X0 n 58 (fillA spec_l22PutTerm.a v) K :=
 call_tell hX (fn := Try.f58) (c := bodyOf Try.f58) (by kernel_rfl) (by kernel_rfl) (A := spec_l22PutTerm.a) (u := spec_l22PutTerm.u) (fun _ _ h => h) (call := D82) (lp := fun n => orL 3 spec_l22PutTerm.l3.s (spec_l22PutTerm.l3.u n) noL) (D82_ok hX) (fun n => (orL_ok (spec_l22PutTerm.l3_ok hX n) noL_ok)) (fun n v K => by kernel_rfl)
def D83 (n : Nat) : CallF := orC 58 spec_l22PutTerm.a (spec_l22PutTerm.u n) (D82 n)
theorem D83_ok : ∀ n g a K, D83 n g a K → callM C X0 n g a K := fun n => orC_ok (spec_l22PutTerm_ok hX n) (D82_ok hX n)
abbrev spec_SaveSession.a : List TS := [.a [.o (.dat 89 (.prod .str (.int .i64))), .o (.dat 91 (.prod (.int .i64) (.sl 81 (.prod (.int .i64) (.prod .bool (.prod (.sl 155 (.prod (.int .i64) (.prod (.int .i64) (.prod (.int .i64) (.prod (.int .i64) (.prod (.int .i64) (.prod (.sl 182 (.int .u64)) (.sl 2 (.int .i64))))))))) (.sl 155 (.prod (.int .i64) (.prod (.int .i64) (.prod (.int .i64) (.prod (.int .i64) (.prod (.int .i64) (.prod (.sl 182 (.int .u64)) (.sl 2 (.int .i64))))))))))))))), .o (.int .i64)]]
def spec_SaveSession.u (n : Nat) (v : VA spec_SaveSession.a) (K : RES → Prop) : Prop := spec_SaveSession.c n v.1.1 v.1.2.1 v.1.2.2.1 (fun r0 => K ⟨.c (.row ⟨5, .int .u8, r0, 99, none⟩), []⟩)
abbrev spec_SaveSession.l6.s : ST := ⟨[(1, .c (.o (.pbox 1 0))), (3, .c (.o (.own 96))), (4, .c (.o (.int .i64)))], [⟨96, 5, .int .u8, 99⟩], [⟨1, 32, [.o (.dat 89 (.prod .str (.int .i64))), .o (.dat 91 (.prod (.int .i64) (.sl 81 (.prod (.int .i64) (.prod .bool (.prod (.sl 155 (.prod (.int .i64) (.prod (.int .i64) (.prod (.int .i64) (.prod (.int .i64) (.prod (.int .i64) (.prod (.sl 182 (.int .u64)) (.sl 2 (.int .i64))))))))) (.sl 155 (.prod (.int .i64) (.prod (.int .i64) (.prod (.int .i64) (.prod (.int .i64) (.prod (.int .i64) (.prod (.sl 182 (.int .u64)) (.sl 2 (.int .i64))))))))))))))), .o (.int .i64)], false⟩], [], []⟩
def spec_SaveSession.l6.u (n : Nat) (v : spec_SaveSession.l6.s.V) (K : X → St → Prop) : Prop := spec_SaveSession.l6 n v.2.2.1.1 v.2.2.1.2.1 v.2.2.1.2.2.1 v.1.2.2.1 v.2.1.1 (fun y0 y1 y2 y3 => K (.exit 0) ⟨[(1, .c (.pbox 1 0)), (3, .c (.own 96))], [(96, ⟨5, .int .u8, y0, 99, none⟩)], [(1, ⟨32, [.dat 89 (.prod .str (.int .i64)) y1, .dat 91 (.prod (.int .i64) (.sl 81 (.prod (.int .i64) (.prod .bool (.prod (.sl 155 (.prod (.int .i64) (.prod (.int .i64) (.prod (.int .i64) (.prod (.int .i64) (.prod (.int .i64) (.prod (.sl 182 (.int .u64)) (.sl 2 (.int .i64))))))))) (.sl 155 (.prod (.int .i64) (.prod (.int .i64) (.prod (.int .i64) (.prod (.int .i64) (.prod (.int .i64) (.prod (.sl 182 (.int .u64)) (.sl 2 (.int .i64)))))))))))))) y2, .int .i64 y3], false⟩)], [], []⟩)
abbrev spec_SaveSession.l16.s : ST := ⟨[(1, .c (.o (.pbox 1 0))), (3, .c (.o (.own 96))), (5, .c (.o (.int .i64))), (6, .c (.o (.pbox 6 0))), (7, .c (.o (.int .i64)))], [⟨96, 5, .int .u8, 99⟩], [⟨1, 32, [.o (.dat 89 (.prod .str (.int .i64))), .o (.dat 91 (.prod (.int .i64) (.sl 81 (.prod (.int .i64) (.prod .bool (.prod (.sl 155 (.prod (.int .i64) (.prod (.int .i64) (.prod (.int .i64) (.prod (.int .i64) (.prod (.int .i64) (.prod (.sl 182 (.int .u64)) (.sl 2 (.int .i64))))))))) (.sl 155 (.prod (.int .i64) (.prod (.int .i64) (.prod (.int .i64) (.prod (.int .i64) (.prod (.int .i64) (.prod (.sl 182 (.int .u64)) (.sl 2 (.int .i64))))))))))))))), .o (.int .i64)], false⟩, ⟨6, 91, [.o (.int .i64), .o (.dat 81 (.prod (.int .i64) (.prod .bool (.prod (.sl 155 (.prod (.int .i64) (.prod (.int .i64) (.prod (.int .i64) (.prod (.int .i64) (.prod (.int .i64) (.prod (.sl 182 (.int .u64)) (.sl 2 (.int .i64))))))))) (.sl 155 (.prod (.int .i64) (.prod (.int .i64) (.prod (.int .i64) (.prod (.int .i64) (.prod (.int .i64) (.prod (.sl 182 (.int .u64)) (.sl 2 (.int .i64)))))))))))))], false⟩], [], []⟩
def spec_SaveSession.l16.u (n : Nat) (v : spec_SaveSession.l16.s.V) (K : X → St → Prop) : Prop := spec_SaveSession.l16 n v.1.2.2.1 v.2.2.1.1 v.2.2.1.2.1 v.2.2.1.2.2.1 v.2.2.2.1.1 v.2.2.2.1.2.1 v.1.2.2.2.2.1 v.2.1.1 (fun y0 y1 y2 y3 y4 => K (.exit 4) ⟨[(1, .c (.pbox 1 0)), (3, .c (.own 96)), (5, .c (.int .i64 y0))], [(96, ⟨5, .int .u8, y1, 99, none⟩)], [(1, ⟨32, [.dat 89 (.prod .str (.int .i64)) y2, .dat 91 (.prod (.int .i64) (.sl 81 (.prod (.int .i64) (.prod .bool (.prod (.sl 155 (.prod (.int .i64) (.prod (.int .i64) (.prod (.int .i64) (.prod (.int .i64) (.prod (.int .i64) (.prod (.sl 182 (.int .u64)) (.sl 2 (.int .i64))))))))) (.sl 155 (.prod (.int .i64) (.prod (.int .i64) (.prod (.int .i64) (.prod (.int .i64) (.prod (.int .i64) (.prod (.sl 182 (.int .u64)) (.sl 2 (.int .i64)))))))))))))) y3, .int .i64 y4], false⟩)], [], []⟩) (fun y0 => K .ret ⟨[(2, .c (.own 3296))], [(3296, ⟨5, .int .u8, y0, 99, none⟩)], [], [], []⟩)
abbrev spec_SaveSession.l11.s : ST := ⟨[(1, .c (.o (.pbox 1 0))), (3, .c (.o (.own 96))), (5, .c (.o (.int .i64)))], [⟨96, 5, .int .u8, 99⟩], [⟨1, 32, [.o (.dat 89 (.prod .str (.int .i64))), .o (.dat 91 (.prod (.int .i64) (.sl 81 (.prod (.int .i64) (.prod .bool (.prod (.sl 155 (.prod (.int .i64) (.prod (.int .i64) (.prod (.int .i64) (.prod (.int .i64) (.prod (.int .i64) (.prod (.sl 182 (.int .u64)) (.sl 2 (.int .i64))))))))) (.sl 155 (.prod (.int .i64) (.prod (.int .i64) (.prod (.int .i64) (.prod (.int .i64) (.prod (.int .i64) (.prod (.sl 182 (.int .u64)) (.sl 2 (.int .i64))))))))))))))), .o (.int .i64)], false⟩], [], []⟩
def spec_SaveSession.l11.u (n : Nat) (v : spec_SaveSession.l11.s.V) (K : X → St → Prop) : Prop := spec_SaveSession.l11 n v.1.2.2.1 v.2.1.1 v.2.2.1.1 v.2.2.1.2.1 v.2.2.1.2.2.1 (fun y0 => K (.exit 2) ⟨[(3, .c (.own 96))], [(96, ⟨5, .int .u8, y0, 99, none⟩)], [], [], []⟩) (fun y0 => K .ret ⟨[(2, .c (.own 3296))], [(3296, ⟨5, .int .u8, y0, 99, none⟩)], [], [], []⟩)
theorem spec_SaveSession.l6_ok : ∀ n v K, spec_SaveSession.l6.u n v K → loopM C X0 n 17 6 (spec_SaveSession.l6.s.fill v) K :=
 loop_tell hX (fn := Try.f17) (c := bodyOf Try.f17) (a := loopOf Try.f17 6) (li := liOf (C.fi 17).loops 6) (by kernel_rfl) (by kernel_rfl) (of_decide_eq_true rfl) (by kernel_rfl) (by kernel_rfl) (T := spec_SaveSession.l6.s) (u := spec_SaveSession.l6.u) (fun _ _ h => h) (call := D83) (lp := fun n => noL) (D83_ok hX) (fun n => noL_ok) (fun n v K => by kernel_rfl)
theorem spec_SaveSession.l16_ok : ∀ n v K, spec_SaveSession.l16.u n v K → loopM C X0 n 17 16 (spec_SaveSession.l16.s.fill v) K :=
 loop_tell hX (fn := Try.f17) (c := bodyOf Try.f17) (a := loopOf Try.f17 16) (li := liOf (C.fi 17).loops 16) (by kernel_rfl) (by kernel_rfl) (of_decide_eq_true rfl) (by kernel_rfl) (by kernel_rfl) (T := spec_SaveSession.l16.s) (u := spec_SaveSession.l16.u) (fun _ _ h => h) (call := D83) (lp := fun n => noL) (D83_ok hX) (fun n => noL_ok) (fun n v K => by kernel_rfl)
theorem spec_SaveSession.l11_ok : ∀ n v K, spec_SaveSession.l11.u n v K → loopM C X0 n 17 11 (spec_SaveSession.l11.s.fill v) K :=
 loop_tell hX (fn := Try.f17) (c := bodyOf Try.f17) (a := loopOf Try.f17 11) (li := liOf (C.fi 17).loops 11) (by kernel_rfl) (by kernel_rfl) (of_decide_eq_true rfl) (by kernel_rfl) (by kernel_rfl) (T := spec_SaveSession.l11.s) (u := spec_SaveSession.l11.u) (fun _ _ h => h) (call := D83) (lp := fun n => orL 16 spec_SaveSession.l16.s (spec_SaveSession.l16.u n) noL) (D83_ok hX) (fun n => (orL_ok (spec_SaveSession.l16_ok hX n) noL_ok)) (fun n v K => by kernel_rfl)
theorem spec_SaveSession_ok : ∀ n v K, spec_SaveSession.u n v K → callM C X0 n 17 (fillA spec_SaveSession.a v) K :=
 call_tell hX (fn := Try.f17) (c := bodyOf Try.f17) (by kernel_rfl) (by kernel_rfl) (A := spec_SaveSession.a) (u := spec_SaveSession.u) (fun _ _ h => h) (call := D83) (lp := fun n => orL 6 spec_SaveSession.l6.s (spec_SaveSession.l6.u n) (orL 11 spec_SaveSession.l11.s (spec_SaveSession.l11.u n) noL)) (D83_ok hX) (fun n => (orL_ok (spec_SaveSession.l6_ok hX n) (orL_ok (spec_SaveSession.l11_ok hX n) noL_ok))) (fun n v K => by kernel_rfl)
def D84 (n : Nat) : CallF := orC 17 spec_SaveSession.a (spec_SaveSession.u n) (D83 n)
theorem D84_ok : ∀ n g a K, D84 n g a K → callM C X0 n g a K := fun n => orC_ok (spec_SaveSession_ok hX n) (D83_ok hX n)
abbrev impl_saver_number.a : List TS := [.c (.boxr 94 [.row 5 (.int .u8) 99]), .c (.o (.int .i64))]
def impl_saver_number.u (n : Nat) (v : VA impl_saver_number.a) (K : RES → Prop) : Prop := impl_saver_number.c n v.1.1 v.2.1 (fun r0 => K ⟨.tup [], [[.boxr 94 [.row ⟨5, .int .u8, r0, 99, none⟩]]]⟩)
abbrev impl_saver_number.l0.s : ST := ⟨[(0, .c (.o (.pbox 0 0))), (1, .c (.o (.int .i64)))], [⟨1000000, 5, .int .u8, 99⟩], [⟨0, 94, [.o (.own 1000000)], false⟩], [], [0]⟩
def impl_saver_number.l0.u (n : Nat) (v : impl_saver_number.l0.s.V) (K : X → St → Prop) : Prop := impl_saver_number.l0 n v.1.2.1 v.2.1.1 (fun y0 y1 => K (.exit 0) ⟨[(0, .c (.pbox 0 0)), (1, .c (.int .i64 y0))], [(1000000, ⟨5, .int .u8, y1, 99, none⟩)], [(0, ⟨94, [.own 1000000], false⟩)], [], [0]⟩)
theorem impl_saver_number.l0_ok : ∀ n v K, impl_saver_number.l0.u n v K → loopM C X0 n 59 0 (impl_saver_number.l0.s.fill v) K :=
 loop_tell hX (fn := Try.f59) (c := bodyOf Try.f59) (a := loopOf Try.f59 0) (li := liOf (C.fi 59).loops 0) (by kernel_rfl) (by kernel_rfl) (of_decide_eq_true rfl) (by kernel_rfl) (by kernel_rfl) (T := impl_saver_number.l0.s) (u := impl_saver_number.l0.u) (fun _ _ h => h) (call := D84) (lp := fun n => noL) (D84_ok hX) (fun n => noL_ok) (fun n v K => by kernel_rfl)
theorem impl_saver_number_ok : ∀ n v K, impl_saver_number.u n v K → callM C X0 n 59 (fillA impl_saver_number.a v) K :=
 call_tell hX (fn := Try.f59) (c := bodyOf Try.f59) (by kernel_rfl) (by kernel_rfl) (A := impl_saver_number.a) (u := impl_saver_number.u) (fun _ _ h => h) (call := D84) (lp := fun n => orL 0 impl_saver_number.l0.s (impl_saver_number.l0.u n) noL) (D84_ok hX) (fun n => (orL_ok (impl_saver_number.l0_ok hX n) noL_ok)) (fun n v K => by kernel_rfl)
def D85 (n : Nat) : CallF := orC 59 impl_saver_number.a (impl_saver_number.u n) (D84 n)
theorem D85_ok : ∀ n g a K, D85 n g a K → callM C X0 n g a K := fun n => orC_ok (impl_saver_number_ok hX n) (D84_ok hX n)
abbrev impl_saver_bits.a : List TS := [.c (.boxr 94 [.row 5 (.int .u8) 99]), .a [.o (.int .i64), .o (.dat 182 (.int .u64))]]
def impl_saver_bits.u (n : Nat) (v : VA impl_saver_bits.a) (K : RES → Prop) : Prop := impl_saver_bits.c n v.1.1 v.2.1.1 v.2.1.2.1 (fun r0 => K ⟨.tup [], [[.boxr 94 [.row ⟨5, .int .u8, r0, 99, none⟩]]]⟩)
abbrev impl_saver_bits.l3.s : ST := ⟨[(0, .c (.o (.pbox 0 0))), (3, .c (.o (.pbox 3 0))), (4, .c (.o (.int .i64)))], [⟨1000000, 5, .int .u8, 99⟩], [⟨0, 94, [.o (.own 1000000)], false⟩, ⟨3, 59, [.o (.int .i64), .o (.dat 182 (.int .u64))], false⟩], [], [0]⟩
def impl_saver_bits.l3.u (n : Nat) (v : impl_saver_bits.l3.s.V) (K : X → St → Prop) : Prop := impl_saver_bits.l3 n v.2.2.2.1.1 v.2.2.2.1.2.1 v.1.2.2.1 v.2.1.1 (fun y0 => K (.exit 0) ⟨[], [(1000000, ⟨5, .int .u8, y0, 99, none⟩)], [(0, ⟨94, [.own 1000000], false⟩)], [], [0]⟩)
theorem impl_saver_bits.l3_ok : ∀ n v K, impl_saver_bits.l3.u n v K → loopM C X0 n 157 3 (impl_saver_bits.l3.s.fill v) K :=
 loop_tell hX (fn := Try.f157) (c := bodyOf Try.f157) (a := loopOf Try.f157 3) (li := liOf (C.fi 157).loops 3) (by kernel_rfl) (by kernel_rfl) (of_decide_eq_true rfl) (by kernel_rfl) (by kernel_rfl) (T := impl_saver_bits.l3.s) (u := impl_saver_bits.l3.u) (fun _ _ h => h) (call := D85) (lp := fun n => noL) (D85_ok hX) (fun n => noL_ok) (fun n v K => by kernel_rfl)
theorem impl_saver_bits_ok : ∀ n v K, impl_saver_bits.u n v K → callM C X0 n 157 (fillA impl_saver_bits.a v) K :=
 call_tell hX (fn := Try.f157) (c := bodyOf Try.f157) (by kernel_rfl) (by kernel_rfl) (A := impl_saver_bits.a) (u := impl_saver_bits.u) (fun _ _ h => h) (call := D85) (lp := fun n => orL 3 impl_saver_bits.l3.s (impl_saver_bits.l3.u n) noL) (D85_ok hX) (fun n => (orL_ok (impl_saver_bits.l3_ok hX n) noL_ok)) (fun n v K => by kernel_rfl)
def D86 (n : Nat) : CallF := orC 157 impl_saver_bits.a (impl_saver_bits.u n) (D85 n)
theorem D86_ok : ∀ n g a K, D86 n g a K → callM C X0 n g a K := fun n => orC_ok (impl_saver_bits_ok hX n) (D85_ok hX n)
abbrev impl_saver_term.a : List TS := [.c (.boxr 94 [.row 5 (.int .u8) 99]), .a [.o (.dat 155 (.prod (.int .i64) (.prod (.int .i64) (.prod (.int .i64) (.prod (.int .i64) (.prod (.int .i64) (.prod (.sl 182 (.int .u64)) (.sl 2 (.int .i64)))))))))]]
def impl_saver_term.u (n : Nat) (v : VA impl_saver_term.a) (K : RES → Prop) : Prop := impl_saver_term.c n v.1.1 v.2.1.1 (fun r0 => K ⟨.tup [], [[.boxr 94 [.row ⟨5, .int .u8, r0, 99, none⟩]]]⟩)
abbrev impl_saver_term.l6.s : ST := ⟨[(0, .c (.o (.pbox 0 0))), (5, .c (.o (.pbox 5 0))), (16, .c (.o (.dat 155 (.prod (.int .i64) (.prod (.int .i64) (.prod (.int .i64) (.prod (.int .i64) (.prod (.int .i64) (.prod (.sl 182 (.int .u64)) (.sl 2 (.int .i64))))))))))), (17, .c (.o (.int .i64))), (18, .c (.o (.int .i64))), (30, .c (.o (.own 960))), (31, .c (.o (.int .i64))), (32, .c (.o (.int .i64)))], [⟨960, 2, .int .i64, 99⟩, ⟨1000000, 5, .int .u8, 99⟩], [⟨0, 94, [.o (.own 1000000)], false⟩, ⟨5, 155, [.o (.int .i64), .o (.int .i64), .o (.int .i64), .o (.int .i64), .o (.int .i64), .o (.dat 182 (.int .u64)), .o (.dat 2 (.int .i64))], false⟩], [], [0]⟩
def impl_saver_term.l6.u (n : Nat) (v : impl_saver_term.l6.s.V) (K : X → St → Prop) : Prop := impl_saver_term.l6 n v.1.2.2.1 v.1.2.2.2.1 v.1.2.2.2.2.1 v.1.2.2.2.2.2.2.1 v.2.1.1 v.2.2.2.1.1 v.2.2.2.1.2.1 v.2.2.2.1.2.2.1 v.2.2.2.1.2.2.2.1 v.2.2.2.1.2.2.2.2.1 v.2.2.2.1.2.2.2.2.2.1 v.2.2.2.1.2.2.2.2.2.2.1 v.1.2.2.2.2.2.2.2.1 v.2.1.2.1 (fun y0 y1 y2 y3 y4 y5 y6 y7 y8 y9 y10 => K (.exit 2) ⟨[(0, .c (.pbox 0 0)), (5, .c (.pbox 5 0)), (16, .c (.dat 155 (.prod (.int .i64) (.prod (.int .i64) (.prod (.int .i64) (.prod (.int .i64) (.prod (.int .i64) (.prod (.sl 182 (.int .u64)) (.sl 2 (.int .i64)))))))) y0)), (17, .c (.int .i64 y1)), (18, .c (.int .i64 y2))], [(1000000, ⟨5, .int .u8, y3, 99, none⟩)], [(0, ⟨94, [.own 1000000], false⟩), (5, ⟨155, [.int .i64 y4, .int .i64 y5, .int .i64 y6, .int .i64 y7, .int .i64 y8, .dat 182 (.int .u64) y9, .dat 2 (.int .i64) y10], false⟩)], [], [0]⟩)
abbrev impl_saver_term.l13.s : ST := ⟨[(0, .c (.o (.pbox 0 0))), (16, .c (.o (.dat 155 (.prod (.int .i64) (.prod (.int .i64) (.prod (.int .i64) (.prod (.int .i64) (.prod (.int .i64) (.prod (.sl 182 (.int .u64)) (.sl 2 (.int .i64))))))))))), (17, .c (.o (.int .i64))), (18, .c (.o (.int .i64))), (50, .c (.o (.dat 2 (.int .i64)))), (51, .c (.o (.int .i64))), (52, .c (.o (.int .i64)))], [⟨1000000, 5, .int .u8, 99⟩], [⟨0, 94, [.o (.own 1000000)], false⟩], [], [0]⟩
def impl_saver_term.l13.u (n : Nat) (v : impl_saver_term.l13.s.V) (K : X → St → Prop) : Prop := impl_saver_term.l13 n v.1.2.1 v.1.2.2.1 v.1.2.2.2.1 v.1.2.2.2.2.1 v.1.2.2.2.2.2.1 v.1.2.2.2.2.2.2.1 v.2.1.1 (fun y0 y1 y2 y3 => K (.exit 4) ⟨[(0, .c (.pbox 0 0)), (16, .c (.dat 155 (.prod (.int .i64) (.prod (.int .i64) (.prod (.int .i64) (.prod (.int .i64) (.prod (.int .i64) (.prod (.sl 182 (.int .u64)) (.sl 2 (.int .i64)))))))) y0)), (17, .c (.int .i64 y1)), (18, .c (.int .i64 y2))], [(1000000, ⟨5, .int .u8, y3, 99, none⟩)], [(0, ⟨94, [.own 1000000], false⟩)], [], [0]⟩)
abbrev impl_saver_term.l3.s : ST := ⟨[(0, .c (.o (.pbox 0 0))), (16, .c (.o (.dat 155 (.prod (.int .i64) (.prod (.int .i64) (.prod (.int .i64) (.prod (.int .i64) (.prod (.int .i64) (.prod (.sl 182 (.int .u64)) (.sl 2 (.int .i64))))))))))), (17, .c (.o (.int .i64))), (18, .c (.o (.int .i64)))], [⟨1000000, 5, .int .u8, 99⟩], [⟨0, 94, [.o (.own 1000000)], false⟩], [], [0]⟩
def impl_saver_term.l3.u (n : Nat) (v : impl_saver_term.l3.s.V) (K : X → St → Prop) : Prop := impl_saver_term.l3 n v.1.2.1 v.1.2.2.1 v.1.2.2.2.1 v.2.1.1 (fun y0 => K (.exit 0) ⟨[], [(1000000, ⟨5, .int .u8, y0, 99, none⟩)], [(0, ⟨94, [.own 1000000], false⟩)], [], [0]⟩)
theorem impl_saver_term.l6_ok : ∀ n v K, impl_saver_term.l6.u n v K → loopM C X0 n 117 6 (impl_saver_term.l6.s.fill v) K :=
 loop_tell hX (fn := Try.f117) (c := bodyOf Try.f117) (a := loopOf Try.f117 6) (li := liOf (C.fi 117).loops 6) (by kernel_rfl) (by kernel_rfl) (of_decide_eq_true rfl) (by kernel_rfl) (by kernel_rfl) (T := impl_saver_term.l6.s) (u := impl_saver_term.l6.u) (fun _ _ h => h) (call := D86) (lp := fun n => noL) (D86_ok hX) (fun n => noL_ok) (fun n v K => by kernel_rfl)
theorem impl_saver_term.l13_ok : ∀ n v K, impl_saver_term.l13.u n v K → loopM C X0 n 117 13 (impl_saver_term.l13.s.fill v) K :=
 loop_tell hX (fn := Try.f117) (c := bodyOf Try.f117) (a := loopOf Try.f117 13) (li := liOf (C.fi 117).loops 13) (by kernel_rfl) (by kernel_rfl) (of_decide_eq_true rfl) (by kernel_rfl) (by kernel_rfl) (T := impl_saver_term.l13.s) (u := impl_saver_term.l13.u) (fun _ _ h => h) (call := D86) (lp := fun n => noL) (D86_ok hX) (fun n => noL_ok) (fun n v K => by kernel_rfl)
theorem impl_saver_term.l3_ok : ∀ n v K, impl_saver_term.l3.u n v K → loopM C X0 n 117 3 (impl_saver_term.l3.s.fill v) K :=
 loop_tell hX (fn := Try.f117) (c := bodyOf Try.f117) (a := loopOf Try.f117 3) (li := liOf (C.fi 117).loops 3) (by kernel_rfl) (by kernel_rfl) (of_decide_eq_true rfl) (by kernel_rfl) (by kernel_rfl) (T := impl_saver_term.l3.s) (u := impl_saver_term.l3.u) (fun _ _ h => h) (call := D86) (lp := fun n => orL 6 impl_saver_term.l6.s (impl_saver_term.l6.u n) (orL 13 impl_saver_term.l13.s (impl_saver_term.l13.u n) noL)) (D86_ok hX) (fun n => (orL_ok (impl_saver_term.l6_ok hX n) (orL_ok (impl_saver_term.l13_ok hX n) noL_ok))) (fun n v K => by kernel_rfl)
theorem impl_saver_term_ok : ∀ n v K, impl_saver_term.u n v K → callM C X0 n 117 (fillA impl_saver_term.a v) K :=
 call_tell hX (fn := Try.f117) (c := bodyOf Try.f117) (by kernel_rfl) (by kernel_rfl) (A := impl_saver_term.a) (u := impl_saver_term.u) (fun _ _ h => h) (call := D86) (lp := fun n => orL 3 impl_saver_term.l3.s (impl_saver_term.l3.u n) noL) (D86_ok hX) (fun n => (orL_ok (impl_saver_term.l3_ok hX n) noL_ok)) (fun n v K => by kernel_rfl)
def D87 (n : Nat) : CallF := orC 117 impl_saver_term.a (impl_saver_term.u n) (D86 n)
theorem D87_ok : ∀ n g a K, D87 n g a K → callM C X0 n g a K := fun n => orC_ok (impl_saver_term_ok hX n) (D86_ok hX n)
abbrev impl_saver_literal.a : List TS := [.c (.boxr 94 [.row 5 (.int .u8) 99]), .a [.o (.int .i64), .o .bool, .o (.dat 155 (.prod (.int .i64) (.prod (.int .i64) (.prod (.int .i64) (.prod (.int .i64) (.prod (.int .i64) (.prod (.sl 182 (.int .u64)) (.sl 2 (.int .i64))))))))), .o (.dat 155 (.prod (.int .i64) (.prod (.int .i64) (.prod (.int .i64) (.prod (.int .i64) (.prod (.int .i64) (.prod (.sl 182 (.int .u64)) (.sl 2 (.int .i64)))))))))]]
def impl_saver_literal.u (n : Nat) (v : VA impl_saver_literal.a) (K : RES → Prop) : Prop := impl_saver_literal.c n v.1.1 v.2.1.1 v.2.1.2.1 v.2.1.2.2.1 v.2.1.2.2.2.1 (fun r0 => K ⟨.tup [], [[.boxr 94 [.row ⟨5, .int .u8, r0, 99, none⟩]]]⟩)
theorem impl_saver_literal_ok : ∀ n v K, impl_saver_literal.u n v K → callM C X0 n 60 (fillA impl_saver_literal.a v) K :=
 call_tell hX (fn := Try.f60) (c := bodyOf Try.f60) (by kernel_rfl) (by kernel_rfl) (A := impl_saver_literal.a) (u := impl_saver_literal.u) (fun _ _ h => h) (call := D87) (lp := fun n => noL) (D87_ok hX) (fun n => noL_ok) (fun n v K => by kernel_rfl)
def D88 (n : Nat) : CallF := orC 60 impl_saver_literal.a (impl_saver_literal.u n) (D87 n)
theorem D88_ok : ∀ n g a K, D88 n g a K → callM C X0 n g a K := fun n => orC_ok (impl_saver_literal_ok hX n) (D87_ok hX n)
end
end Go.Vsi
end

section
set_option linter.unusedVariables false
namespace Go.Vsi
open Go.Proofs
section
variable {X0 : CallF} (hX : CallF.Mono X0)
include hX
abbrev impl_SaveSession.a : List TS := [.a [.o (.dat 89 (.prod .str (.int .i64))), .o (.dat 91 (.prod (.int .i64) (.sl 81 (.prod (.int .i64) (.prod .bool (.prod (.sl 155 (.prod (.int .i64) (.prod (.int .i64) (.prod (.int .i64) (.prod (.int .i64) (.prod (.int .i64) (.prod (.sl 182 (.int .u64)) (.sl 2 (.int .i64))))))))) (.sl 155 (.prod (.int .i64) (.prod (.int .i64) (.prod (.int .i64) (.prod (.int .i64) (.prod (.int .i64) (.prod (.sl 182 (.int .u64)) (.sl 2 (.int .i64))))))))))))))), .o (.int .i64)]]
def impl_SaveSession.u (n : Nat) (v : VA impl_SaveSession.a) (K : RES → Prop) : Prop := impl_SaveSession.c n v.1.1 v.1.2.1 v.1.2.2.1 (fun r0 => K ⟨.c (.row ⟨5, .int .u8, r0, 99, none⟩), []⟩)
abbrev impl_SaveSession.l7.s : ST := ⟨[(1, .c (.o (.pbox 1 0))), (3, .c (.o (.pbox 3 0))), (23, .c (.o (.dat 89 (.prod .str (.int .i64))))), (24, .c (.o (.int .i64))), (25, .c (.o (.int .i64)))], [⟨1000096, 5, .int .u8, 99⟩], [⟨1, 32, [.o (.dat 89 (.prod .str (.int .i64))), .o (.dat 91 (.prod (.int .i64) (.sl 81 (.prod (.int .i64) (.prod .bool (.prod (.sl 155 (.prod (.int .i64) (.prod (.int .i64) (.prod (.int .i64) (.prod (.int .i64) (.prod (.int .i64) (.prod (.sl 182 (.int .u64)) (.sl 2 (.int .i64))))))))) (.sl 155 (.prod (.int .i64) (.prod (.int .i64) (.prod (.int .i64) (.prod (.int .i64) (.prod (.int .i64) (.prod (.sl 182 (.int .u64)) (.sl 2 (.int .i64))))))))))))))), .o (.int .i64)], false⟩, ⟨3, 94, [.o (.own 1000096)], false⟩], [], []⟩
def impl_SaveSession.l7.u (n : Nat) (v : impl_SaveSession.l7.s.V) (K : X → St → Prop) : Prop := impl_SaveSession.l7 n v.1.2.2.1 v.1.2.2.2.1 v.2.2.1.1 v.2.2.1.2.1 v.2.2.1.2.2.1 v.1.2.2.2.2.1 v.2.1.1 (fun y0 y1 y2 y3 => K (.exit 0) ⟨[(1, .c (.pbox 1 0)), (3, .c (.pbox 3 0))], [(1000096, ⟨5, .int .u8, y0, 99, none⟩)], [(1, ⟨32, [.dat 89 (.prod .str (.int .i64)) y1, .dat 91 (.prod (.int .i64) (.sl 81 (.prod (.int .i64) (.prod .bool (.prod (.sl 155 (.prod (.int .i64) (.prod (.int .i64) (.prod (.int .i64) (.prod (.int .i64) (.prod (.int .i64) (.prod (.sl 182 (.int .u64)) (.sl 2 (.int .i64))))))))) (.sl 155 (.prod (.int .i64) (.prod (.int .i64) (.prod (.int .i64) (.prod (.int .i64) (.prod (.int .i64) (.prod (.sl 182 (.int .u64)) (.sl 2 (.int .i64)))))))))))))) y2, .int .i64 y3], false⟩), (3, ⟨94, [.own 1000096], false⟩)], [], []⟩)
abbrev impl_SaveSession.l20.s : ST := ⟨[(3, .c (.o (.pbox 3 0))), (48, .c (.o (.dat 91 (.prod (.int .i64) (.sl 81 (.prod (.int .i64) (.prod .bool (.prod (.sl 155 (.prod (.int .i64) (.prod (.int .i64) (.prod (.int .i64) (.prod (.int .i64) (.prod (.int .i64) (.prod (.sl 182 (.int .u64)) (.sl 2 (.int .i64))))))))) (.sl 155 (.prod (.int .i64) (.prod (.int .i64) (.prod (.int .i64) (.prod (.int .i64) (.prod (.int .i64) (.prod (.sl 182 (.int .u64)) (.sl 2 (.int .i64))))))))))))))))), (49, .c (.o (.int .i64))), (50, .c (.o (.int .i64))), (62, .c (.o (.dat 81 (.prod (.int .i64) (.prod .bool (.prod (.sl 155 (.prod (.int .i64) (.prod (.int .i64) (.prod (.int .i64) (.prod (.int .i64) (.prod (.int .i64) (.prod (.sl 182 (.int .u64)) (.sl 2 (.int .i64))))))))) (.sl 155 (.prod (.int .i64) (.prod (.int .i64) (.prod (.int .i64) (.prod (.int .i64) (.prod (.int .i64) (.prod (.sl 182 (.int .u64)) (.sl 2 (.int .i64))))))))))))))), (63, .c (.o (.int .i64))), (64, .c (.o (.int .i64)))], [⟨1000096, 5, .int .u8, 99⟩], [⟨3, 94, [.o (.own 1000096)], false⟩], [], []⟩
def impl_SaveSession.l20.u (n : Nat) (v : impl_SaveSession.l20.s.V) (K : X → St → Prop) : Prop := impl_SaveSession.l20 n v.1.2.1 v.1.2.2.1 v.1.2.2.2.1 v.1.2.2.2.2.1 v.1.2.2.2.2.2.1 v.1.2.2.2.2.2.2.1 v.2.1.1 (fun y0 y1 y2 y3 => K (.exit 4) ⟨[(3, .c (.pbox 3 0)), (48, .c (.dat 91 (.prod (.int .i64) (.sl 81 (.prod (.int .i64) (.prod .bool (.prod (.sl 155 (.prod (.int .i64) (.prod (.int .i64) (.prod (.int .i64) (.prod (.int .i64) (.prod (.int .i64) (.prod (.sl 182 (.int .u64)) (.sl 2 (.int .i64))))))))) (.sl 155 (.prod (.int .i64) (.prod (.int .i64) (.prod (.int .i64) (.prod (.int .i64) (.prod (.int .i64) (.prod (.sl 182 (.int .u64)) (.sl 2 (.int .i64)))))))))))))) y0)), (49, .c (.int .i64 y1)), (50, .c (.int .i64 y2))], [(1000096, ⟨5, .int .u8, y3, 99, none⟩)], [(3, ⟨94, [.own 1000096], false⟩)], [], []⟩)
abbrev impl_SaveSession.l15.s : ST := ⟨[(3, .c (.o (.pbox 3 0))), (48, .c (.o (.dat 91 (.prod (.int .i64) (.sl 81 (.prod (.int .i64) (.prod .bool (.prod (.sl 155 (.prod (.int .i64) (.prod (.int .i64) (.prod (.int .i64) (.prod (.int .i64) (.prod (.int .i64) (.prod (.sl 182 (.int .u64)) (.sl 2 (.int .i64))))))))) (.sl 155 (.prod (.int .i64) (.prod (.int .i64) (.prod (.int .i64) (.prod (.int .i64) (.prod (.int .i64) (.prod (.sl 182 (.int .u64)) (.sl 2 (.int .i64))))))))))))))))), (49, .c (.o (.int .i64))), (50, .c (.o (.int .i64)))], [⟨1000096, 5, .int .u8, 99⟩], [⟨3, 94, [.o (.own 1000096)], false⟩], [], []⟩
def impl_SaveSession.l15.u (n : Nat) (v : impl_SaveSession.l15.s.V) (K : X → St → Prop) : Prop := impl_SaveSession.l15 n v.1.2.1 v.1.2.2.1 v.1.2.2.2.1 v.2.1.1 (fun y0 => K (.exit 2) ⟨[(3, .c (.pbox 3 0))], [(1000096, ⟨5, .int .u8, y0, 99, none⟩)], [(3, ⟨94, [.own 1000096], false⟩)], [], []⟩)
theorem impl_SaveSession.l7_ok : ∀ n v K, impl_SaveSession.l7.u n v K → loopM C X0 n 18 7 (impl_SaveSession.l7.s.fill v) K :=
 loop_tell hX (fn := Try.f18) (c := bodyOf Try.f18) (a := loopOf Try.f18 7) (li := liOf (C.fi 18).loops 7) (by kernel_rfl) (by kernel_rfl) (of_decide_eq_true rfl) (by kernel_rfl) (by kernel_rfl) (T := impl_SaveSession.l7.s) (u := impl_SaveSession.l7.u) (fun _ _ h => h) (call := D88) (lp := fun n => noL) (D88_ok hX) (fun n => noL_ok) (fun n v K => by kernel_rfl)
theorem impl_SaveSession.l20_ok : ∀ n v K, impl_SaveSession.l20.u n v K → loopM C X0 n 18 20 (impl_SaveSession.l20.s.fill v) K :=
 loop_tell hX (fn := Try.f18) (c := bodyOf Try.f18) (a := loopOf Try.f18 20) (li := liOf (C.fi 18).loops 20) (by kernel_rfl) (by kernel_rfl) (of_decide_eq_true rfl) (by kernel_rfl) (by kernel_rfl) (T := impl_SaveSession.l20.s) (u := impl_SaveSession.l20.u) (fun _ _ h => h) (call := D88) (lp := fun n => noL) (D88_ok hX) (fun n => noL_ok) (fun n v K => by kernel_rfl)
theorem impl_SaveSession.l15_ok : ∀ n v K, impl_SaveSession.l15.u n v K → loopM C X0 n 18 15 (impl_SaveSession.l15.s.fill v) K :=
 loop_tell hX (fn := Try.f18) (c := bodyOf Try.f18) (a := loopOf Try.f18 15) (li := liOf (C.fi 18).loops 15) (by kernel_rfl) (by kernel_rfl) (of_decide_eq_true rfl) (by kernel_rfl) (by kernel_rfl) (T := impl_SaveSession.l15.s) (u := impl_SaveSession.l15.u) (fun _ _ h => h) (call := D88) (lp := fun n => orL 20 impl_SaveSession.l20.s (impl_SaveSession.l20.u n) noL) (D88_ok hX) (fun n => (orL_ok (impl_SaveSession.l20_ok hX n) noL_ok)) (fun n v K => by kernel_rfl)
theorem impl_SaveSession_ok : ∀ n v K, impl_SaveSession.u n v K → callM C X0 n 18 (fillA impl_SaveSession.a v) K :=
 call_tell hX (fn := Try.f18) (c := bodyOf Try.f18) (by kernel_rfl) (by kernel_rfl) (A := impl_SaveSession.a) (u := impl_SaveSession.u) (fun _ _ h => h) (call := D88) (lp := fun n => orL 7 impl_SaveSession.l7.s (impl_SaveSession.l7.u n) (orL 15 impl_SaveSession.l15.s (impl_SaveSession.l15.u n) noL)) (D88_ok hX) (fun n => (orL_ok (impl_SaveSession.l7_ok hX n) (orL_ok (impl_SaveSession.l15_ok hX n) noL_ok))) (fun n v K => by kernel_rfl)
def D89 (n : Nat) : CallF := orC 18 impl_SaveSession.a (impl_SaveSession.u n) (D88 n)
theorem D89_ok : ∀ n g a K, D89 n g a K → callM C X0 n g a K := fun n => orC_ok (impl_SaveSession_ok hX n) (D88_ok hX n)
abbrev laws_eqByteS.a : List TS := [.c (.o (.dat 5 (.int .u8))), .c (.o (.dat 5 (.int .u8)))]
def laws_eqByteS.u (n : Nat) (v : VA laws_eqByteS.a) (K : RES → Prop) : Prop := laws_eqByteS.c n v.1 v.2.1 (fun r0 => K ⟨.c (.bool r0), []⟩)
abbrev laws_eqByteS.l4.s : ST := ⟨[(0, .c (.o (.dat 5 (.int .u8)))), (1, .c (.o (.dat 5 (.int .u8)))), (5, .c (.o (.int .i64)))], [], [], [], []⟩
def laws_eqByteS.l4.u (n : Nat) (v : laws_eqByteS.l4.s.V) (K : X → St → Prop) : Prop := laws_eqByteS.l4 n v.1.1 v.1.2.1 v.1.2.2.1 (K (.exit 0) ⟨[], [], [], [], []⟩) (fun y0 => K .ret ⟨[(4, .c (.bool y0))], [], [], [], []⟩)
theorem laws_eqByteS.l4_ok : ∀ n v K, laws_eqByteS.l4.u n v K → loopM C X0 n 19 4 (laws_eqByteS.l4.s.fill v) K :=
 loop_tell hX (fn := Try.f19) (c := bodyOf Try.f19) (a := loopOf Try.f19 4) (li := liOf (C.fi 19).loops 4) (by kernel_rfl) (by kernel_rfl) (of_decide_eq_true rfl) (by kernel_rfl) (by kernel_rfl) (T := laws_eqByteS.l4.s) (u := laws_eqByteS.l4.u) (fun _ _ h => h) (call := D89) (lp := fun n => noL) (D89_ok hX) (fun n => noL_ok) (fun n v K => by kernel_rfl)
theorem laws_eqByteS_ok : ∀ n v K, laws_eqByteS.u n v K → callM C X0 n 19 (fillA laws_eqByteS.a v) K :=
 call_tell hX (fn := Try.f19) (c := bodyOf Try.f19) (by kernel_rfl) (by kernel_rfl) (A := laws_eqByteS.a) (u := laws_eqByteS.u) (fun _ _ h => h) (call := D89) (lp := fun n => orL 4 laws_eqByteS.l4.s (laws_eqByteS.l4.u n) noL) (D89_ok hX) (fun n => (orL_ok (laws_eqByteS.l4_ok hX n) noL_ok)) (fun n v K => by kernel_rfl)
def D90 (n : Nat) : CallF := orC 19 laws_eqByteS.a (laws_eqByteS.u n) (D89 n)
theorem D90_ok : ∀ n g a K, D90 n g a K → callM C X0 n g a K := fun n => orC_ok (laws_eqByteS_ok hX n) (D89_ok hX n)
abbrev laws_markByteS.a : List TS := [.c (.o (.row 5 (.int .u8) 99)), .c (.o (.int .i64))]
def laws_markByteS.u (n : Nat) (v : VA laws_markByteS.a) (K : RES → Prop) : Prop := laws_markByteS.c n v.1 v.2.1 (fun r0 r1 => K ⟨.c (.int .i64 r0), [[.row ⟨5, .int .u8, r1, 99, none⟩]]⟩)
abbrev laws_markByteS.l2.s : ST := ⟨[(0, .c (.o (.own 0))), (1, .c (.o (.int .i64))), (5, .c (.o (.int .i64)))], [⟨0, 5, .int .u8, 99⟩], [], [0], []⟩
def laws_markByteS.l2.u (n : Nat) (v : laws_markByteS.l2.s.V) (K : X → St → Prop) : Prop := laws_markByteS.l2 n v.1.2.1 v.1.2.2.1 v.2.1.1 (fun y0 y1 => K (.exit 0) ⟨[(1, .c (.int .i64 y0))], [(0, ⟨5, .int .u8, y1, 99, none⟩)], [], [0], []⟩)
theorem laws_markByteS.l2_ok : ∀ n v K, laws_markByteS.l2.u n v K → loopM C X0 n 20 2 (laws_markByteS.l2.s.fill v) K :=
 loop_tell hX (fn := Try.f20) (c := bodyOf Try.f20) (a := loopOf Try.f20 2) (li := liOf (C.fi 20).loops 2) (by kernel_rfl) (by kernel_rfl) (of_decide_eq_true rfl) (by kernel_rfl) (by kernel_rfl) (T := laws_markByteS.l2.s) (u := laws_markByteS.l2.u) (fun _ _ h => h) (call := D90) (lp := fun n => noL) (D90_ok hX) (fun n => noL_ok) (fun n v K => by kernel_rfl)
theorem laws_markByteS_ok : ∀ n v K, laws_markByteS.u n v K → callM C X0 n 20 (fillA laws_markByteS.a v) K :=
 call_tell hX (fn := Try.f20) (c := bodyOf Try.f20) (by kernel_rfl) (by kernel_rfl) (A := laws_markByteS.a) (u := laws_markByteS.u) (fun _ _ h => h) (call := D90) (lp := fun n => orL 2 laws_markByteS.l2.s (laws_markByteS.l2.u n) noL) (D90_ok hX) (fun n => (orL_ok (laws_markByteS.l2_ok hX n) noL_ok)) (fun n v K => by kernel_rfl)
def D91 (n : Nat) : CallF := orC 20 laws_markByteS.a (laws_markByteS.u n) (D90 n)
theorem D91_ok : ∀ n g a K, D91 n g a K → callM C X0 n g a K := fun n => orC_ok (laws_markByteS_ok hX n) (D90_ok hX n)
abbrev laws_heldByteS.a : List TS := [.c (.o (.dat 5 (.int .u8))), .c (.o (.int .i64))]
def laws_heldByteS.u (n : Nat) (v : VA laws_heldByteS.a) (K : RES → Prop) : Prop := laws_heldByteS.c n v.1 v.2.1 (fun r0 => K ⟨.c (.int .i64 r0), []⟩)
abbrev laws_heldByteS.l2.s : ST := ⟨[(0, .c (.o (.dat 5 (.int .u8)))), (1, .c (.o (.int .i64))), (5, .c (.o (.int .i64)))], [], [], [], []⟩
def laws_heldByteS.l2.u (n : Nat) (v : laws_heldByteS.l2.s.V) (K : X → St → Prop) : Prop := laws_heldByteS.l2 n v.1.1 v.1.2.1 v.1.2.2.1 (fun y0 => K (.exit 0) ⟨[(1, .c (.int .i64 y0))], [], [], [], []⟩) (fun y0 => K .ret ⟨[(4, .c (.int .i64 y0))], [], [], [], []⟩)
theorem laws_heldByteS.l2_ok : ∀ n v K, laws_heldByteS.l2.u n v K → loopM C X0 n 21 2 (laws_heldByteS.l2.s.fill v) K :=
 loop_tell hX (fn := Try.f21) (c := bodyOf Try.f21) (a := loopOf Try.f21 2) (li := liOf (C.fi 21).loops 2) (by kernel_rfl) (by kernel_rfl) (of_decide_eq_true rfl) (by kernel_rfl) (by kernel_rfl) (T := laws_heldByteS.l2.s) (u := laws_heldByteS.l2.u) (fun _ _ h => h) (call := D91) (lp := fun n => noL) (D91_ok hX) (fun n => noL_ok) (fun n v K => by kernel_rfl)
theorem laws_heldByteS_ok : ∀ n v K, laws_heldByteS.u n v K → callM C X0 n 21 (fillA laws_heldByteS.a v) K :=
 call_tell hX (fn := Try.f21) (c := bodyOf Try.f21) (by kernel_rfl) (by kernel_rfl) (A := laws_heldByteS.a) (u := laws_heldByteS.u) (fun _ _ h => h) (call := D91) (lp := fun n => orL 2 laws_heldByteS.l2.s (laws_heldByteS.l2.u n) noL) (D91_ok hX) (fun n => (orL_ok (laws_heldByteS.l2_ok hX n) noL_ok)) (fun n v K => by kernel_rfl)
def D92 (n : Nat) : CallF := orC 21 laws_heldByteS.a (laws_heldByteS.u n) (D91 n)
theorem D92_ok : ∀ n g a K, D92 n g a K → callM C X0 n g a K := fun n => orC_ok (laws_heldByteS_ok hX n) (D91_ok hX n)
abbrev laws_FnExactSaveSession.a : List TS := [.a [.o (.dat 98 (.prod .str (.int .i64))), .o (.dat 145 (.prod (.int .i64) (.sl 216 (.prod (.int .i64) (.prod .bool (.prod (.sl 222 (.prod (.int .i64) (.prod (.int .i64) (.prod (.int .i64) (.prod (.int .i64) (.prod (.int .i64) (.prod (.sl 182 (.int .u64)) (.sl 2 (.int .i64))))))))) (.sl 222 (.prod (.int .i64) (.prod (.int .i64) (.prod (.int .i64) (.prod (.int .i64) (.prod (.int .i64) (.prod (.sl 182 (.int .u64)) (.sl 2 (.int .i64))))))))))))))), .o (.int .i64)]]
def laws_FnExactSaveSession.u (n : Nat) (v : VA laws_FnExactSaveSession.a) (K : RES → Prop) : Prop := laws_FnExactSaveSession.c n v.1.1 v.1.2.1 v.1.2.2.1 (fun r0 => K ⟨.c (.bool r0), []⟩)
theorem laws_FnExactSaveSession_ok : ∀ n v K, laws_FnExactSaveSession.u n v K → callM C X0 n 4 (fillA laws_FnExactSaveSession.a v) K :=
 call_tell hX (fn := Try.f4) (c := bodyOf Try.f4) (by kernel_rfl) (by kernel_rfl) (A := laws_FnExactSaveSession.a) (u := laws_FnExactSaveSession.u) (fun _ _ h => h) (call := D92) (lp := fun n => noL) (D92_ok hX) (fun n => noL_ok) (fun n v K => by kernel_rfl)
def D93 (n : Nat) : CallF := orC 4 laws_FnExactSaveSession.a (laws_FnExactSaveSession.u n) (D92 n)
theorem D93_ok : ∀ n g a K, D93 n g a K → callM C X0 n g a K := fun n => orC_ok (laws_FnExactSaveSession_ok hX n) (D92_ok hX n)
end
end Go.Vsi
end
