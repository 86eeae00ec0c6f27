/- Each told function is what the machine comes to. No statement is proved here. -/
import Derived.Test.YtglikghdpmkioaaM3
import Derived.Test.YtglikghdpmkioaaA1
import Derived.Test.YtglikghdpmkioaaProg
import Derived.KernelRfl

section
set_option linter.unusedVariables false
namespace Go.Vsi
open Go.Proofs
def tis : List (Nat × TI) := [
(1, ⟨false, 1, 8, [.undef], none, none, []⟩),
(2, ⟨false, 1, 8, [.int .i64 0], some (.int .i64), none, []⟩),
(3, ⟨false, 1, 8, [.int .i64 0], some (.int .i64), none, []⟩),
(4, ⟨false, 1, 1, [.bool false], some (.bool), none, []⟩),
(5, ⟨false, 1, 1, [.int .u8 0], some (.int .u8), none, []⟩),
(6, ⟨false, 1, 1, [.int .u8 0], some (.int .u8), none, []⟩),
(7, ⟨true, 4, 24, [.int .i64 0, .int .i64 0, .bool false, .int .u8 0], some (.prod (.int .i64) (.prod (.int .i64) (.prod .bool (.int .u8)))), none, [(0, 2), (1, 3), (2, 4), (3, 6)]⟩),
(8, ⟨true, 4, 24, [.int .i64 0, .int .i64 0, .bool false, .int .u8 0], some (.prod (.int .i64) (.prod (.int .i64) (.prod .bool (.int .u8)))), none, [(0, 2), (1, 3), (2, 4), (3, 6)]⟩),
(9, ⟨false, 1, 16, [.str []], some (.str), none, []⟩),
(10, ⟨false, 1, 16, [.str []], some (.str), none, []⟩),
(11, ⟨false, 1, 16, [.str []], some (.str), none, []⟩),
(12, ⟨false, 1, 8, [.int .u64 0], some (.int .u64), none, []⟩),
(13, ⟨true, 2, 24, [.str [], .int .u64 0], some (.prod .str (.int .u64)), none, [(0, 9), (1, 12)]⟩),
(14, ⟨true, 2, 24, [.str [], .int .u64 0], some (.prod .str (.int .u64)), none, [(0, 9), (1, 12)]⟩),
(15, ⟨false, 1, 8, [.undef], none, none, []⟩),
(16, ⟨false, 1, 8, [.undef], none, none, []⟩),
(17, ⟨false, 1, 8, [.undef], none, none, []⟩),
(18, ⟨true, 1, 8, [.undef], none, none, [(0, 17)]⟩),
(19, ⟨true, 1, 8, [.undef], none, none, [(0, 17)]⟩),
(20, ⟨false, 1, 16, [.undef], none, none, []⟩),
(21, ⟨false, 1, 4, [.int .i32 0], some (.int .i32), none, []⟩),
(22, ⟨false, 1, 24, [.emp 98 (.prod .str (.int .i64))], some (.sl 98 (.prod .str (.int .i64))), some 98, []⟩),
(23, ⟨false, 1, 24, [.emp 157 (.prod (.int .i64) (.prod (.int .i64) (.prod (.int .i64) (.prod (.int .i64) (.prod (.int .i64) (.prod (.sl 148 (.int .u64)) (.sl 2 (.int .i64))))))))], some (.sl 157 (.prod (.int .i64) (.prod (.int .i64) (.prod (.int .i64) (.prod (.int .i64) (.prod (.int .i64) (.prod (.sl 148 (.int .u64)) (.sl 2 (.int .i64))))))))), some 157, []⟩),
(24, ⟨true, 1, 24, [.emp 157 (.prod (.int .i64) (.prod (.int .i64) (.prod (.int .i64) (.prod (.int .i64) (.prod (.int .i64) (.prod (.sl 148 (.int .u64)) (.sl 2 (.int .i64))))))))], some (.sl 157 (.prod (.int .i64) (.prod (.int .i64) (.prod (.int .i64) (.prod (.int .i64) (.prod (.int .i64) (.prod (.sl 148 (.int .u64)) (.sl 2 (.int .i64))))))))), none, [(0, 23)]⟩),
(25, ⟨true, 1, 24, [.emp 157 (.prod (.int .i64) (.prod (.int .i64) (.prod (.int .i64) (.prod (.int .i64) (.prod (.int .i64) (.prod (.sl 148 (.int .u64)) (.sl 2 (.int .i64))))))))], some (.sl 157 (.prod (.int .i64) (.prod (.int .i64) (.prod (.int .i64) (.prod (.int .i64) (.prod (.int .i64) (.prod (.sl 148 (.int .u64)) (.sl 2 (.int .i64))))))))), none, [(0, 23)]⟩),
(26, ⟨false, 1, 8, [.undef], none, none, []⟩),
(27, ⟨false, 1, 8, [.undef], none, none, []⟩),
(28, ⟨false, 1, 8, [.undef], none, none, []⟩),
(29, ⟨false, 1, 24, [.emp 100 (.prod .str (.int .i64))], some (.sl 100 (.prod .str (.int .i64))), some 100, []⟩),
(30, ⟨false, 1, 8, [.undef], none, none, []⟩),
(31, ⟨false, 1, 24, [.emp 129 (.prod (.int .i64) (.prod (.int .i64) (.prod (.int .i64) (.prod (.int .i64) (.prod (.int .i64) (.prod (.sl 148 (.int .u64)) (.sl 2 (.int .i64))))))))], some (.sl 129 (.prod (.int .i64) (.prod (.int .i64) (.prod (.int .i64) (.prod (.int .i64) (.prod (.int .i64) (.prod (.sl 148 (.int .u64)) (.sl 2 (.int .i64))))))))), some 129, []⟩),
(32, ⟨true, 1, 24, [.emp 129 (.prod (.int .i64) (.prod (.int .i64) (.prod (.int .i64) (.prod (.int .i64) (.prod (.int .i64) (.prod (.sl 148 (.int .u64)) (.sl 2 (.int .i64))))))))], some (.sl 129 (.prod (.int .i64) (.prod (.int .i64) (.prod (.int .i64) (.prod (.int .i64) (.prod (.int .i64) (.prod (.sl 148 (.int .u64)) (.sl 2 (.int .i64))))))))), none, [(0, 31)]⟩),
(33, ⟨true, 1, 24, [.emp 129 (.prod (.int .i64) (.prod (.int .i64) (.prod (.int .i64) (.prod (.int .i64) (.prod (.int .i64) (.prod (.sl 148 (.int .u64)) (.sl 2 (.int .i64))))))))], some (.sl 129 (.prod (.int .i64) (.prod (.int .i64) (.prod (.int .i64) (.prod (.int .i64) (.prod (.int .i64) (.prod (.sl 148 (.int .u64)) (.sl 2 (.int .i64))))))))), none, [(0, 31)]⟩),
(34, ⟨false, 1, 8, [.undef], none, none, []⟩),
(35, ⟨false, 1, 8, [.undef], none, none, []⟩),
(36, ⟨false, 1, 8, [.undef], none, none, []⟩),
(37, ⟨false, 1, 8, [.undef], none, none, []⟩),
(38, ⟨false, 1, 24, [.emp 2 (.int .i64)], some (.sl 2 (.int .i64)), some 2, []⟩),
(39, ⟨false, 1, 8, [.undef], none, none, []⟩),
(40, ⟨false, 1, 8, [.undef], none, none, []⟩),
(41, ⟨false, 1, 8, [.undef], none, none, []⟩),
(42, ⟨false, 1, 8, [.undef], none, none, []⟩),
(43, ⟨false, 1, 8, [.undef], none, none, []⟩),
(44, ⟨false, 1, 8, [.undef], none, none, []⟩),
(45, ⟨false, 1, 24, [.emp 118 (.prod (.int .i64) (.sl 148 (.int .u64)))], some (.sl 118 (.prod (.int .i64) (.sl 148 (.int .u64)))), some 118, []⟩),
(46, ⟨false, 1, 8, [.undef], none, none, []⟩),
(47, ⟨false, 1, 24, [.emp 148 (.int .u64)], some (.sl 148 (.int .u64)), some 148, []⟩),
(48, ⟨true, 2, 32, [.int .i64 0, .emp 148 (.int .u64)], some (.prod (.int .i64) (.sl 148 (.int .u64))), none, [(0, 2), (1, 47)]⟩),
(49, ⟨true, 2, 32, [.int .i64 0, .emp 148 (.int .u64)], some (.prod (.int .i64) (.sl 148 (.int .u64))), none, [(0, 2), (1, 47)]⟩),
(51, ⟨false, 1, 8, [.undef], none, none, []⟩),
(52, ⟨false, 1, 24, [.emp 49 (.prod (.int .i64) (.sl 148 (.int .u64)))], some (.sl 49 (.prod (.int .i64) (.sl 148 (.int .u64)))), some 49, []⟩),
(53, ⟨false, 1, 8, [.undef], none, none, []⟩),
(54, ⟨false, 1, 8, [.undef], none, none, []⟩),
(55, ⟨false, 1, 8, [.undef], none, none, []⟩),
(56, ⟨false, 1, 8, [.undef], none, none, []⟩),
(57, ⟨false, 1, 8, [.undef], none, none, []⟩),
(58, ⟨false, 1, 8, [.undef], none, none, []⟩),
(59, ⟨true, 4, 64, [.int .i64 0, .bool false, .emp 157 (.prod (.int .i64) (.prod (.int .i64) (.prod (.int .i64) (.prod (.int .i64) (.prod (.int .i64) (.prod (.sl 148 (.int .u64)) (.sl 2 (.int .i64)))))))), .emp 157 (.prod (.int .i64) (.prod (.int .i64) (.prod (.int .i64) (.prod (.int .i64) (.prod (.int .i64) (.prod (.sl 148 (.int .u64)) (.sl 2 (.int .i64))))))))], some (.prod (.int .i64) (.prod .bool (.prod (.sl 157 (.prod (.int .i64) (.prod (.int .i64) (.prod (.int .i64) (.prod (.int .i64) (.prod (.int .i64) (.prod (.sl 148 (.int .u64)) (.sl 2 (.int .i64))))))))) (.sl 157 (.prod (.int .i64) (.prod (.int .i64) (.prod (.int .i64) (.prod (.int .i64) (.prod (.int .i64) (.prod (.sl 148 (.int .u64)) (.sl 2 (.int .i64)))))))))))), none, [(0, 2), (1, 4), (2, 25), (3, 25)]⟩),
(60, ⟨true, 4, 64, [.int .i64 0, .bool false, .emp 157 (.prod (.int .i64) (.prod (.int .i64) (.prod (.int .i64) (.prod (.int .i64) (.prod (.int .i64) (.prod (.sl 148 (.int .u64)) (.sl 2 (.int .i64)))))))), .emp 157 (.prod (.int .i64) (.prod (.int .i64) (.prod (.int .i64) (.prod (.int .i64) (.prod (.int .i64) (.prod (.sl 148 (.int .u64)) (.sl 2 (.int .i64))))))))], some (.prod (.int .i64) (.prod .bool (.prod (.sl 157 (.prod (.int .i64) (.prod (.int .i64) (.prod (.int .i64) (.prod (.int .i64) (.prod (.int .i64) (.prod (.sl 148 (.int .u64)) (.sl 2 (.int .i64))))))))) (.sl 157 (.prod (.int .i64) (.prod (.int .i64) (.prod (.int .i64) (.prod (.int .i64) (.prod (.int .i64) (.prod (.sl 148 (.int .u64)) (.sl 2 (.int .i64)))))))))))), none, [(0, 2), (1, 4), (2, 25), (3, 25)]⟩),
(61, ⟨false, 1, 8, [.undef], none, none, []⟩),
(63, ⟨false, 1, 8, [.undef], none, none, []⟩),
(64, ⟨true, 4, 64, [.int .i64 0, .bool false, .emp 129 (.prod (.int .i64) (.prod (.int .i64) (.prod (.int .i64) (.prod (.int .i64) (.prod (.int .i64) (.prod (.sl 148 (.int .u64)) (.sl 2 (.int .i64)))))))), .emp 129 (.prod (.int .i64) (.prod (.int .i64) (.prod (.int .i64) (.prod (.int .i64) (.prod (.int .i64) (.prod (.sl 148 (.int .u64)) (.sl 2 (.int .i64))))))))], some (.prod (.int .i64) (.prod .bool (.prod (.sl 129 (.prod (.int .i64) (.prod (.int .i64) (.prod (.int .i64) (.prod (.int .i64) (.prod (.int .i64) (.prod (.sl 148 (.int .u64)) (.sl 2 (.int .i64))))))))) (.sl 129 (.prod (.int .i64) (.prod (.int .i64) (.prod (.int .i64) (.prod (.int .i64) (.prod (.int .i64) (.prod (.sl 148 (.int .u64)) (.sl 2 (.int .i64)))))))))))), none, [(0, 2), (1, 4), (2, 33), (3, 33)]⟩),
(65, ⟨true, 4, 64, [.int .i64 0, .bool false, .emp 129 (.prod (.int .i64) (.prod (.int .i64) (.prod (.int .i64) (.prod (.int .i64) (.prod (.int .i64) (.prod (.sl 148 (.int .u64)) (.sl 2 (.int .i64)))))))), .emp 129 (.prod (.int .i64) (.prod (.int .i64) (.prod (.int .i64) (.prod (.int .i64) (.prod (.int .i64) (.prod (.sl 148 (.int .u64)) (.sl 2 (.int .i64))))))))], some (.prod (.int .i64) (.prod .bool (.prod (.sl 129 (.prod (.int .i64) (.prod (.int .i64) (.prod (.int .i64) (.prod (.int .i64) (.prod (.int .i64) (.prod (.sl 148 (.int .u64)) (.sl 2 (.int .i64))))))))) (.sl 129 (.prod (.int .i64) (.prod (.int .i64) (.prod (.int .i64) (.prod (.int .i64) (.prod (.int .i64) (.prod (.sl 148 (.int .u64)) (.sl 2 (.int .i64)))))))))))), none, [(0, 2), (1, 4), (2, 33), (3, 33)]⟩),
(66, ⟨false, 1, 8, [.undef], none, none, []⟩),
(67, ⟨false, 1, 8, [.undef], none, none, []⟩),
(68, ⟨false, 1, 8, [.undef], none, none, []⟩),
(69, ⟨false, 1, 24, [.emp 135 (.prod (.int .i64) (.prod (.int .i64) (.prod (.int .i64) (.prod (.int .i64) (.sl 148 (.int .u64))))))], some (.sl 135 (.prod (.int .i64) (.prod (.int .i64) (.prod (.int .i64) (.prod (.int .i64) (.sl 148 (.int .u64))))))), some 135, []⟩),
(71, ⟨false, 1, 8, [.undef], none, none, []⟩),
(72, ⟨false, 1, 8, [.undef], none, none, []⟩),
(73, ⟨false, 1, 8, [.undef], none, none, []⟩),
(74, ⟨false, 1, 8, [.undef], none, none, []⟩),
(75, ⟨false, 1, 24, [.emp 5 (.int .u8)], some (.sl 5 (.int .u8)), some 5, []⟩),
(76, ⟨false, 1, 8, [.undef], none, none, []⟩),
(78, ⟨false, 1, 8, [.undef], none, none, []⟩),
(79, ⟨false, 1, 8, [.undef], none, none, []⟩),
(80, ⟨false, 1, 24, [.emp 65 (.prod (.int .i64) (.prod .bool (.prod (.sl 129 (.prod (.int .i64) (.prod (.int .i64) (.prod (.int .i64) (.prod (.int .i64) (.prod (.int .i64) (.prod (.sl 148 (.int .u64)) (.sl 2 (.int .i64))))))))) (.sl 129 (.prod (.int .i64) (.prod (.int .i64) (.prod (.int .i64) (.prod (.int .i64) (.prod (.int .i64) (.prod (.sl 148 (.int .u64)) (.sl 2 (.int .i64))))))))))))], some (.sl 65 (.prod (.int .i64) (.prod .bool (.prod (.sl 129 (.prod (.int .i64) (.prod (.int .i64) (.prod (.int .i64) (.prod (.int .i64) (.prod (.int .i64) (.prod (.sl 148 (.int .u64)) (.sl 2 (.int .i64))))))))) (.sl 129 (.prod (.int .i64) (.prod (.int .i64) (.prod (.int .i64) (.prod (.int .i64) (.prod (.int .i64) (.prod (.sl 148 (.int .u64)) (.sl 2 (.int .i64))))))))))))), some 65, []⟩),
(81, ⟨false, 1, 24, [.emp 60 (.prod (.int .i64) (.prod .bool (.prod (.sl 157 (.prod (.int .i64) (.prod (.int .i64) (.prod (.int .i64) (.prod (.int .i64) (.prod (.int .i64) (.prod (.sl 148 (.int .u64)) (.sl 2 (.int .i64))))))))) (.sl 157 (.prod (.int .i64) (.prod (.int .i64) (.prod (.int .i64) (.prod (.int .i64) (.prod (.int .i64) (.prod (.sl 148 (.int .u64)) (.sl 2 (.int .i64))))))))))))], some (.sl 60 (.prod (.int .i64) (.prod .bool (.prod (.sl 157 (.prod (.int .i64) (.prod (.int .i64) (.prod (.int .i64) (.prod (.int .i64) (.prod (.int .i64) (.prod (.sl 148 (.int .u64)) (.sl 2 (.int .i64))))))))) (.sl 157 (.prod (.int .i64) (.prod (.int .i64) (.prod (.int .i64) (.prod (.int .i64) (.prod (.int .i64) (.prod (.sl 148 (.int .u64)) (.sl 2 (.int .i64))))))))))))), some 60, []⟩),
(82, ⟨false, 1, 8, [.undef], none, none, []⟩),
(83, ⟨false, 1, 8, [.undef], none, none, []⟩),
(84, ⟨false, 1, 8, [.undef], none, none, []⟩),
(85, ⟨false, 1, 8, [.undef], none, none, []⟩),
(87, ⟨false, 1, 8, [.undef], none, none, []⟩),
(88, ⟨false, 1, 8, [.undef], none, none, []⟩),
(89, ⟨false, 1, 8, [.undef], none, none, []⟩),
(91, ⟨false, 1, 8, [.undef], none, none, []⟩),
(93, ⟨false, 1, 8, [.undef], none, none, []⟩),
(94, ⟨false, 1, 8, [.undef], none, none, []⟩),
(95, ⟨false, 1, 8, [.undef], none, none, []⟩),
(96, ⟨false, 1, 8, [.undef], none, none, []⟩),
(97, ⟨true, 2, 24, [.str [], .int .i64 0], some (.prod .str (.int .i64)), none, [(0, 9), (1, 2)]⟩),
(98, ⟨true, 2, 24, [.str [], .int .i64 0], some (.prod .str (.int .i64)), none, [(0, 9), (1, 2)]⟩),
(99, ⟨false, 1, 8, [.undef], none, none, []⟩),
(100, ⟨true, 2, 24, [.str [], .int .i64 0], some (.prod .str (.int .i64)), none, [(0, 9), (1, 2)]⟩),
(101, ⟨false, 1, 8, [.undef], none, none, []⟩),
(102, ⟨false, 1, 8, [.undef], none, none, []⟩),
(103, ⟨false, 1, 8, [.undef], none, none, []⟩),
(104, ⟨false, 1, 8, [.undef], none, none, []⟩),
(105, ⟨false, 1, 8, [.undef], none, none, []⟩),
(106, ⟨true, 2, 32, [.int .i64 0, .emp 129 (.prod (.int .i64) (.prod (.int .i64) (.prod (.int .i64) (.prod (.int .i64) (.prod (.int .i64) (.prod (.sl 148 (.int .u64)) (.sl 2 (.int .i64))))))))], some (.prod (.int .i64) (.sl 129 (.prod (.int .i64) (.prod (.int .i64) (.prod (.int .i64) (.prod (.int .i64) (.prod (.int .i64) (.prod (.sl 148 (.int .u64)) (.sl 2 (.int .i64)))))))))), none, [(0, 2), (1, 31)]⟩),
(107, ⟨true, 2, 32, [.int .i64 0, .emp 129 (.prod (.int .i64) (.prod (.int .i64) (.prod (.int .i64) (.prod (.int .i64) (.prod (.int .i64) (.prod (.sl 148 (.int .u64)) (.sl 2 (.int .i64))))))))], some (.prod (.int .i64) (.sl 129 (.prod (.int .i64) (.prod (.int .i64) (.prod (.int .i64) (.prod (.int .i64) (.prod (.int .i64) (.prod (.sl 148 (.int .u64)) (.sl 2 (.int .i64)))))))))), none, [(0, 2), (1, 31)]⟩),
(109, ⟨false, 1, 8, [.undef], none, none, []⟩),
(110, ⟨false, 1, 8, [.undef], none, none, []⟩),
(111, ⟨false, 1, 8, [.undef], none, none, []⟩),
(112, ⟨true, 2, 48, [.emp 129 (.prod (.int .i64) (.prod (.int .i64) (.prod (.int .i64) (.prod (.int .i64) (.prod (.int .i64) (.prod (.sl 148 (.int .u64)) (.sl 2 (.int .i64)))))))), .emp 2 (.int .i64)], some (.prod (.sl 129 (.prod (.int .i64) (.prod (.int .i64) (.prod (.int .i64) (.prod (.int .i64) (.prod (.int .i64) (.prod (.sl 148 (.int .u64)) (.sl 2 (.int .i64))))))))) (.sl 2 (.int .i64))), none, [(0, 31), (1, 38)]⟩),
(113, ⟨true, 2, 48, [.emp 129 (.prod (.int .i64) (.prod (.int .i64) (.prod (.int .i64) (.prod (.int .i64) (.prod (.int .i64) (.prod (.sl 148 (.int .u64)) (.sl 2 (.int .i64)))))))), .emp 2 (.int .i64)], some (.prod (.sl 129 (.prod (.int .i64) (.prod (.int .i64) (.prod (.int .i64) (.prod (.int .i64) (.prod (.int .i64) (.prod (.sl 148 (.int .u64)) (.sl 2 (.int .i64))))))))) (.sl 2 (.int .i64))), none, [(0, 31), (1, 38)]⟩),
(114, ⟨false, 1, 8, [.undef], none, none, []⟩),
(115, ⟨false, 1, 8, [.undef], none, none, []⟩),
(116, ⟨false, 1, 8, [.undef], none, none, []⟩),
(117, ⟨false, 1, 8, [.undef], none, none, []⟩),
(118, ⟨true, 2, 32, [.int .i64 0, .emp 148 (.int .u64)], some (.prod (.int .i64) (.sl 148 (.int .u64))), none, [(0, 2), (1, 47)]⟩),
(119, ⟨false, 1, 8, [.undef], none, none, []⟩),
(120, ⟨false, 1, 8, [.undef], none, none, []⟩),
(121, ⟨false, 1, 8, [.undef], none, none, []⟩),
(122, ⟨false, 1, 8, [.undef], none, none, []⟩),
(123, ⟨false, 1, 8, [.undef], none, none, []⟩),
(124, ⟨false, 1, 8, [.undef], none, none, []⟩),
(125, ⟨false, 1, 8, [.undef], none, none, []⟩),
(126, ⟨false, 1, 8, [.undef], none, none, []⟩),
(127, ⟨false, 1, 24, [.emp 130 (.sl 190 (.prod (.int .i64) (.int .i64)))], some (.sl 130 (.sl 190 (.prod (.int .i64) (.int .i64)))), some 130, []⟩),
(128, ⟨true, 7, 88, [.int .i64 0, .int .i64 0, .int .i64 0, .int .i64 0, .int .i64 0, .emp 148 (.int .u64), .emp 2 (.int .i64)], some (.prod (.int .i64) (.prod (.int .i64) (.prod (.int .i64) (.prod (.int .i64) (.prod (.int .i64) (.prod (.sl 148 (.int .u64)) (.sl 2 (.int .i64)))))))), none, [(0, 2), (1, 2), (2, 2), (3, 2), (4, 49), (6, 38)]⟩),
(129, ⟨true, 7, 88, [.int .i64 0, .int .i64 0, .int .i64 0, .int .i64 0, .int .i64 0, .emp 148 (.int .u64), .emp 2 (.int .i64)], some (.prod (.int .i64) (.prod (.int .i64) (.prod (.int .i64) (.prod (.int .i64) (.prod (.int .i64) (.prod (.sl 148 (.int .u64)) (.sl 2 (.int .i64)))))))), none, [(0, 2), (1, 2), (2, 2), (3, 2), (4, 49), (6, 38)]⟩),
(130, ⟨false, 1, 24, [.emp 190 (.prod (.int .i64) (.int .i64))], some (.sl 190 (.prod (.int .i64) (.int .i64))), some 190, []⟩),
(131, ⟨false, 1, 8, [.undef], none, none, []⟩),
(132, ⟨false, 1, 8, [.undef], none, none, []⟩),
(133, ⟨false, 1, 8, [.undef], none, none, []⟩),
(134, ⟨true, 5, 56, [.int .i64 0, .int .i64 0, .int .i64 0, .int .i64 0, .emp 148 (.int .u64)], some (.prod (.int .i64) (.prod (.int .i64) (.prod (.int .i64) (.prod (.int .i64) (.sl 148 (.int .u64)))))), none, [(0, 2), (1, 2), (2, 2), (3, 49)]⟩),
(135, ⟨true, 5, 56, [.int .i64 0, .int .i64 0, .int .i64 0, .int .i64 0, .emp 148 (.int .u64)], some (.prod (.int .i64) (.prod (.int .i64) (.prod (.int .i64) (.prod (.int .i64) (.sl 148 (.int .u64)))))), none, [(0, 2), (1, 2), (2, 2), (3, 49)]⟩),
(136, ⟨false, 1, 8, [.undef], none, none, []⟩),
(137, ⟨false, 1, 8, [.undef], none, none, []⟩),
(138, ⟨false, 1, 8, [.undef], none, none, []⟩),
(139, ⟨false, 1, 8, [.undef], none, none, []⟩),
(140, ⟨false, 1, 8, [.undef], none, none, []⟩),
(141, ⟨false, 1, 8, [.undef], none, none, []⟩),
(142, ⟨false, 1, 8, [.undef], none, none, []⟩),
(143, ⟨false, 1, 8, [.undef], none, none, []⟩),
(144, ⟨false, 1, 8, [.undef], none, none, []⟩),
(145, ⟨false, 1, 8, [.undef], none, none, []⟩),
(146, ⟨false, 1, 8, [.undef], none, none, []⟩),
(147, ⟨false, 1, 8, [.undef], none, none, []⟩),
(148, ⟨false, 1, 8, [.int .u64 0], some (.int .u64), none, []⟩),
(150, ⟨false, 1, 8, [.undef], none, none, []⟩),
(151, ⟨false, 1, 8, [.undef], none, none, []⟩),
(152, ⟨false, 1, 8, [.undef], none, none, []⟩),
(153, ⟨false, 1, 8, [.undef], none, none, []⟩),
(154, ⟨false, 1, 8, [.undef], none, none, []⟩),
(155, ⟨false, 1, 8, [.undef], none, none, []⟩),
(156, ⟨true, 7, 88, [.int .i64 0, .int .i64 0, .int .i64 0, .int .i64 0, .int .i64 0, .emp 148 (.int .u64), .emp 2 (.int .i64)], some (.prod (.int .i64) (.prod (.int .i64) (.prod (.int .i64) (.prod (.int .i64) (.prod (.int .i64) (.prod (.sl 148 (.int .u64)) (.sl 2 (.int .i64)))))))), none, [(0, 2), (1, 2), (2, 2), (3, 2), (4, 118), (6, 38)]⟩),
(157, ⟨true, 7, 88, [.int .i64 0, .int .i64 0, .int .i64 0, .int .i64 0, .int .i64 0, .emp 148 (.int .u64), .emp 2 (.int .i64)], some (.prod (.int .i64) (.prod (.int .i64) (.prod (.int .i64) (.prod (.int .i64) (.prod (.int .i64) (.prod (.sl 148 (.int .u64)) (.sl 2 (.int .i64)))))))), none, [(0, 2), (1, 2), (2, 2), (3, 2), (4, 118), (6, 38)]⟩),
(158, ⟨false, 1, 8, [.undef], none, none, []⟩),
(159, ⟨false, 1, 8, [.undef], none, none, []⟩),
(160, ⟨false, 1, 8, [.undef], none, none, []⟩),
(161, ⟨false, 1, 24, [.emp 4 .bool], some (.sl 4 .bool), some 4, []⟩),
(162, ⟨false, 1, 8, [.undef], none, none, []⟩),
(163, ⟨false, 1, 8, [.undef], none, none, []⟩),
(164, ⟨false, 1, 8, [.undef], none, none, []⟩),
(165, ⟨false, 1, 8, [.undef], none, none, []⟩),
(166, ⟨false, 1, 8, [.undef], none, none, []⟩),
(167, ⟨false, 1, 8, [.undef], none, none, []⟩),
(169, ⟨false, 1, 8, [.undef], none, none, []⟩),
(170, ⟨false, 1, 8, [.undef], none, none, []⟩),
(171, ⟨false, 1, 8, [.undef], none, none, []⟩),
(172, ⟨false, 1, 8, [.undef], none, none, []⟩),
(173, ⟨false, 1, 8, [.undef], none, none, []⟩),
(174, ⟨false, 1, 8, [.undef], none, none, []⟩),
(175, ⟨false, 1, 8, [.undef], none, none, []⟩),
(176, ⟨false, 1, 8, [.undef], none, none, []⟩),
(177, ⟨false, 1, 8, [.undef], none, none, []⟩),
(178, ⟨false, 1, 8, [.undef], none, none, []⟩),
(179, ⟨false, 1, 8, [.undef], none, none, []⟩),
(180, ⟨false, 1, 8, [.undef], none, none, []⟩),
(182, ⟨false, 1, 8, [.undef], none, none, []⟩),
(183, ⟨false, 1, 8, [.undef], none, none, []⟩),
(184, ⟨false, 1, 8, [.undef], none, none, []⟩),
(185, ⟨false, 1, 8, [.undef], none, none, []⟩),
(186, ⟨false, 1, 8, [.undef], none, none, []⟩),
(187, ⟨false, 1, 8, [.undef], none, none, []⟩),
(188, ⟨false, 1, 8, [.undef], none, none, []⟩),
(189, ⟨true, 2, 16, [.int .i64 0, .int .i64 0], some (.prod (.int .i64) (.int .i64)), none, [(0, 2), (1, 2)]⟩),
(190, ⟨true, 2, 16, [.int .i64 0, .int .i64 0], some (.prod (.int .i64) (.int .i64)), none, [(0, 2), (1, 2)]⟩),
(191, ⟨false, 1, 8, [.undef], none, none, []⟩),
(192, ⟨false, 1, 8, [.undef], none, none, []⟩),
(193, ⟨false, 1, 24, [.emp 69 (.sl 135 (.prod (.int .i64) (.prod (.int .i64) (.prod (.int .i64) (.prod (.int .i64) (.sl 148 (.int .u64)))))))], some (.sl 69 (.sl 135 (.prod (.int .i64) (.prod (.int .i64) (.prod (.int .i64) (.prod (.int .i64) (.sl 148 (.int .u64)))))))), some 69, []⟩),
(194, ⟨false, 1, 8, [.undef], none, none, []⟩),
(195, ⟨false, 1, 8, [.undef], none, none, []⟩),
(196, ⟨true, 2, 32, [.emp 5 (.int .u8), .int .i64 0], some (.prod (.sl 5 (.int .u8)) (.int .i64)), none, [(0, 75), (1, 3)]⟩),
(197, ⟨true, 2, 32, [.emp 5 (.int .u8), .int .i64 0], some (.prod (.sl 5 (.int .u8)) (.int .i64)), none, [(0, 75), (1, 3)]⟩),
(198, ⟨false, 1, 8, [.undef], none, none, []⟩),
(199, ⟨false, 1, 8, [.undef], none, none, []⟩),
(200, ⟨false, 1, 8, [.undef], none, none, []⟩),
(201, ⟨false, 1, 8, [.undef], none, none, []⟩),
(202, ⟨false, 1, 8, [.undef], none, none, []⟩),
(203, ⟨false, 1, 8, [.undef], none, none, []⟩),
(204, ⟨false, 1, 8, [.undef], none, none, []⟩),
(205, ⟨false, 1, 8, [.undef], none, none, []⟩),
(206, ⟨false, 1, 8, [.undef], none, none, []⟩),
(207, ⟨false, 1, 8, [.undef], none, none, []⟩),
(208, ⟨false, 1, 8, [.undef], none, none, []⟩),
(209, ⟨false, 1, 8, [.undef], none, none, []⟩),
(210, ⟨false, 1, 8, [.undef], none, none, []⟩),
(211, ⟨false, 1, 8, [.undef], none, none, []⟩),
(212, ⟨false, 1, 8, [.undef], none, none, []⟩),
(213, ⟨false, 1, 8, [.undef], none, none, []⟩),
(214, ⟨false, 1, 8, [.undef], none, none, []⟩),
(215, ⟨false, 1, 8, [.undef], none, none, []⟩),
(216, ⟨false, 1, 8, [.undef], none, none, []⟩),
(217, ⟨false, 1, 8, [.undef], none, none, []⟩),
(218, ⟨false, 1, 8, [.undef], none, none, []⟩),
(219, ⟨false, 1, 8, [.int .u64 0], some (.int .u64), none, []⟩),
(220, ⟨false, 1, 8, [.undef], none, none, []⟩),
(221, ⟨false, 1, 8, [.undef], none, none, []⟩),
(222, ⟨false, 1, 8, [.undef], none, none, []⟩),
(223, ⟨false, 1, 8, [.undef], none, none, []⟩),
(224, ⟨false, 1, 8, [.undef], none, none, []⟩),
(225, ⟨false, 1, 8, [.undef], none, none, []⟩),
(226, ⟨false, 1, 8, [.undef], none, none, []⟩),
(227, ⟨false, 1, 8, [.undef], none, none, []⟩),
(228, ⟨false, 1, 8, [.undef], none, none, []⟩),
(229, ⟨false, 1, 8, [.undef], none, none, []⟩),
(230, ⟨false, 1, 8, [.undef], none, none, []⟩),
(231, ⟨false, 1, 8, [.undef], none, none, []⟩),
(232, ⟨false, 1, 8, [.undef], none, none, []⟩),
(233, ⟨false, 1, 8, [.undef], none, none, []⟩),
(234, ⟨false, 1, 8, [.undef], none, none, []⟩),
(235, ⟨false, 1, 8, [.undef], none, none, []⟩),
(236, ⟨false, 1, 8, [.undef], none, none, []⟩),
(237, ⟨false, 1, 8, [.int .i64 0], some (.int .i64), none, []⟩),
(239, ⟨false, 1, 8, [.undef], none, none, []⟩),
(240, ⟨false, 1, 8, [.undef], none, none, []⟩),
(241, ⟨false, 1, 8, [.undef], none, none, []⟩),
(243, ⟨false, 1, 8, [.undef], none, none, []⟩),
(244, ⟨false, 1, 8, [.undef], none, none, []⟩),
(245, ⟨false, 1, 4, [.int .u32 0], some (.int .u32), none, []⟩),
(246, ⟨false, 1, 8, [.undef], none, none, []⟩),
(247, ⟨false, 1, 8, [.int .u64 0], some (.int .u64), none, []⟩),
(248, ⟨false, 1, 8, [.undef], none, none, []⟩),
(249, ⟨false, 1, 8, [.undef], none, none, []⟩),
(250, ⟨false, 1, 8, [.undef], none, none, []⟩),
(251, ⟨false, 1, 8, [.undef], none, none, []⟩),
(252, ⟨false, 1, 8, [.undef], none, none, []⟩),
(254, ⟨false, 1, 8, [.undef], none, none, []⟩),
(255, ⟨false, 1, 8, [.undef], none, none, []⟩),
(256, ⟨true, 4, 40, [.undef, .undef, .undef, .undef], none, none, [(0, 17), (1, 17), (2, 17), (3, 9)]⟩),
(257, ⟨true, 4, 40, [.undef, .undef, .undef, .undef], none, none, [(0, 17), (1, 17), (2, 17), (3, 9)]⟩),
(258, ⟨true, 0, 0, [], none, none, []⟩),
(259, ⟨true, 0, 0, [], none, none, [(0, 258)]⟩),
(260, ⟨true, 0, 0, [], none, none, [(0, 258)]⟩),
(261, ⟨false, 1, 1, [.int .u8 0], some (.int .u8), none, []⟩),
(262, ⟨false, 1, 1, [.int .u8 0], some (.int .u8), none, []⟩),
(263, ⟨false, 1, 8, [.undef], none, none, []⟩),
(264, ⟨false, 1, 8, [.undef], none, none, []⟩),
(265, ⟨false, 1, 4, [.int .i32 0], some (.int .i32), none, []⟩),
(266, ⟨false, 1, 4, [.int .i32 0], some (.int .i32), none, []⟩),
(267, ⟨true, 11, 48, [.undef, .undef, .undef, .undef, .undef, .undef, .undef, .undef, .undef, .undef, .undef], none, none, [(0, 12), (1, 12), (2, 245), (3, 261), (4, 5), (5, 5), (6, 262), (7, 263), (8, 264), (9, 265), (10, 266)]⟩),
(268, ⟨true, 11, 48, [.undef, .undef, .undef, .undef, .undef, .undef, .undef, .undef, .undef, .undef, .undef], none, none, [(0, 12), (1, 12), (2, 245), (3, 261), (4, 5), (5, 5), (6, 262), (7, 263), (8, 264), (9, 265), (10, 266)]⟩),
(269, ⟨false, 1, 8, [.undef], none, none, []⟩)]
noncomputable def fns : List (Nat × Func) := [(4, Try.f4), (13, Try.f13), (14, Try.f14), (16, Try.f16), (17, Try.f17), (19, Try.f19), (20, Try.f20), (21, Try.f21), (22, Try.f22), (23, Try.f23), (24, Try.f24), (25, Try.f25), (26, Try.f26), (27, Try.f27), (32, Try.f32), (64, Try.f64), (65, Try.f65), (67, Try.f67), (68, Try.f68), (70, Try.f70), (71, Try.f71), (72, Try.f72), (73, Try.f73), (74, Try.f74), (75, Try.f75), (76, Try.f76), (77, Try.f77), (78, Try.f78), (79, Try.f79), (80, Try.f80), (81, Try.f81), (85, Try.f85), (89, Try.f89), (90, Try.f90), (119, Try.f119), (120, Try.f120), (123, Try.f123), (124, Try.f124), (125, Try.f125), (126, Try.f126), (127, Try.f127), (128, Try.f128), (129, Try.f129), (130, Try.f130), (131, Try.f131), (132, Try.f132), (133, Try.f133), (134, Try.f134), (135, Try.f135), (136, Try.f136), (137, Try.f137), (138, Try.f138), (139, Try.f139), (140, Try.f140), (141, Try.f141), (142, Try.f142), (143, Try.f143), (144, Try.f144), (145, Try.f145), (150, Try.f150), (151, Try.f151), (165, Try.f165), (168, Try.f168), (169, Try.f169), (170, Try.f170), (171, Try.f171), (172, Try.f172), (173, Try.f173), (174, Try.f174), (175, Try.f175), (176, Try.f176), (177, Try.f177), (178, Try.f178), (179, Try.f179), (180, Try.f180), (181, Try.f181), (182, Try.f182), (183, Try.f183), (202, Try.f202), (203, Try.f203)]
def fis : List (Nat × Fi) := [
(4, ⟨[], [], [(1000018, ⟨⟨[0, 2, 4, 8, 9, 10, 11], []⟩, [(1000000, ⟨[6], []⟩)], ⟨[6], []⟩⟩)]⟩),
(13, ⟨[], [], [(5, ⟨⟨[0, 1, 5], []⟩, [(0, ⟨[1], []⟩)], ⟨[4], []⟩⟩)]⟩),
(14, ⟨[], [], []⟩),
(16, ⟨[], [], [(3, ⟨⟨[0, 3, 4], []⟩, [(0, ⟨[3], []⟩)], ⟨[2], []⟩⟩)]⟩),
(17, ⟨[], [], []⟩),
(19, ⟨[], [], [(4, ⟨⟨[0, 1, 5], []⟩, [(0, ⟨[], []⟩)], ⟨[4], []⟩⟩)]⟩),
(20, ⟨[], [], []⟩),
(21, ⟨[], [], [(6, ⟨⟨[2, 4, 7, 8, 9], [(7, 0, .own 99), (8, 0, .own 0)]⟩, [(0, ⟨[7], []⟩)], ⟨[6], []⟩⟩)]⟩),
(22, ⟨[], [], [(9, ⟨⟨[2, 9, 10, 11], [(10, 0, .own 99)]⟩, [(0, ⟨[10], []⟩)], ⟨[6], []⟩⟩)]⟩),
(23, ⟨[], [], [(4, ⟨⟨[0, 1, 5], []⟩, [(0, ⟨[], []⟩)], ⟨[4], []⟩⟩)]⟩),
(24, ⟨[1], [], [(2, ⟨⟨[0, 1, 5], []⟩, [(0, ⟨[1], []⟩)], ⟨[4], []⟩⟩)]⟩),
(25, ⟨[1], [], []⟩),
(26, ⟨[1], [], [(2, ⟨⟨[0, 1, 5], []⟩, [(0, ⟨[1], []⟩)], ⟨[4], []⟩⟩)]⟩),
(27, ⟨[], [], [(2, ⟨⟨[0, 1, 5], []⟩, [(0, ⟨[1], []⟩)], ⟨[4], []⟩⟩)]⟩),
(32, ⟨[], [], []⟩),
(64, ⟨[], [], []⟩),
(65, ⟨[], [], [(5, ⟨⟨[0, 1, 5], []⟩, [(0, ⟨[1], []⟩)], ⟨[4], []⟩⟩)]⟩),
(67, ⟨[], [], []⟩),
(68, ⟨[], [], [(3, ⟨⟨[0, 3, 4], []⟩, [(0, ⟨[3], []⟩)], ⟨[2], []⟩⟩)]⟩),
(70, ⟨[], [], []⟩),
(71, ⟨[], [], [(4, ⟨⟨[0, 1, 5], []⟩, [(0, ⟨[], []⟩)], ⟨[4], []⟩⟩)]⟩),
(72, ⟨[], [], [(7, ⟨⟨[0, 3, 5, 6, 7, 8], [(6, 0, .own 99)]⟩, [(0, ⟨[5, 6, 7], []⟩)], ⟨[4], []⟩⟩), (16, ⟨⟨[0, 3, 5, 6, 7, 8, 10], []⟩, [(2, ⟨[0, 3, 5, 6, 7, 8], []⟩)], ⟨[4], []⟩⟩), (20, ⟨⟨[5, 6, 7, 11], []⟩, [(4, ⟨[6], []⟩)], ⟨[4], []⟩⟩)]⟩),
(73, ⟨[], [], []⟩),
(74, ⟨[], [some 1], [(34, ⟨⟨[8, 10, 11, 17, 18], [(1000017, 6, .own 99)]⟩, [(1, ⟨[8, 17], []⟩)], ⟨[8, 9], []⟩⟩), (43, ⟨⟨[4, 8, 10, 19], []⟩, [(3, ⟨[8], []⟩)], ⟨[8, 9], []⟩⟩), (1000010, ⟨⟨[1, 3, 4, 8, 10, 11, 12, 13, 14], []⟩, [(1000000, ⟨[8, 9], []⟩)], ⟨[8, 9], []⟩⟩), (1000016, ⟨⟨[8, 10, 12, 92], []⟩, [(1000000, ⟨[8], []⟩)], ⟨[8, 9], []⟩⟩)]⟩),
(75, ⟨[], [], [(5, ⟨⟨[0, 3, 9, 10, 11], []⟩, [(0, ⟨[3], []⟩)], ⟨[2], []⟩⟩)]⟩),
(76, ⟨[], [], [(6, ⟨⟨[0, 3, 6, 7, 8, 29, 30], []⟩, [(0, ⟨[6, 7, 8], []⟩)], ⟨[4, 5], []⟩⟩), (13, ⟨⟨[0, 3, 6, 7, 8, 9, 10, 11, 29, 30, 52, 53, 54], []⟩, [(2, ⟨[0, 3, 6, 7, 8, 9, 10, 11, 29, 30], []⟩)], ⟨[4, 5], []⟩⟩)]⟩),
(77, ⟨[], [], []⟩),
(78, ⟨[], [], []⟩),
(79, ⟨[], [], [(4, ⟨⟨[0, 3], []⟩, [(0, ⟨[3], []⟩)], ⟨[2], []⟩⟩)]⟩),
(80, ⟨[1], [], [(2, ⟨⟨[0, 1, 5], []⟩, [(0, ⟨[1], []⟩)], ⟨[4], []⟩⟩)]⟩),
(81, ⟨[], [], []⟩),
(85, ⟨[], [], []⟩),
(89, ⟨[], [], [(4, ⟨⟨[0, 1, 5], []⟩, [(0, ⟨[], []⟩)], ⟨[4], []⟩⟩)]⟩),
(90, ⟨[1], [], [(2, ⟨⟨[0, 1, 5], []⟩, [(0, ⟨[1], []⟩)], ⟨[4], []⟩⟩)]⟩),
(119, ⟨[], [], []⟩),
(120, ⟨[], [], []⟩),
(123, ⟨[], [], []⟩),
(124, ⟨[], [], [(5, ⟨⟨[0, 3, 4], []⟩, [(0, ⟨[3], []⟩)], ⟨[2], []⟩⟩), (10, ⟨⟨[0, 3, 4, 5], []⟩, [(2, ⟨[0, 3, 4], []⟩)], ⟨[2], []⟩⟩)]⟩),
(125, ⟨[], [], [(2, ⟨⟨[0, 2, 4, 7], []⟩, [(0, ⟨[0, 4], []⟩)], ⟨[6], []⟩⟩), (1000007, ⟨⟨[0, 4, 63], []⟩, [(1000000, ⟨[0, 4], []⟩)], ⟨[6], []⟩⟩), (1000008, ⟨⟨[0, 4], []⟩, [(1000000, ⟨[6], []⟩)], ⟨[6], []⟩⟩)]⟩),
(126, ⟨[], [], [(3, ⟨⟨[0, 2, 4, 7, 8], []⟩, [(0, ⟨[0, 4, 7], []⟩)], ⟨[6], []⟩⟩)]⟩),
(127, ⟨[], [some 1], [(3, ⟨⟨[2, 3, 4, 6, 7], [(6, 0, .own 1)]⟩, [(0, ⟨[3, 4, 6], []⟩)], ⟨[4, 5], []⟩⟩)]⟩),
(128, ⟨[], [], []⟩),
(129, ⟨[], [some 1], []⟩),
(130, ⟨[], [], [(5, ⟨⟨[0, 1, 4, 6, 7], [(6, 0, .own 99)]⟩, [(0, ⟨[1, 4, 6], []⟩)], ⟨[4, 5], []⟩⟩)]⟩),
(131, ⟨[], [], [(3, ⟨⟨[1, 2, 3, 4, 10, 11], []⟩, [(0, ⟨[], []⟩)], ⟨[8, 9], []⟩⟩)]⟩),
(132, ⟨[], [], [(4, ⟨⟨[0, 3], []⟩, [(0, ⟨[], []⟩)], ⟨[2], []⟩⟩)]⟩),
(133, ⟨[], [], []⟩),
(134, ⟨[], [], [(11, ⟨⟨[8, 80, 81, 82], []⟩, [(1, ⟨[8], []⟩)], ⟨[6], []⟩⟩), (1000005, ⟨⟨[0, 1, 2, 7, 17], []⟩, [(1000000, ⟨[], []⟩)], ⟨[6], []⟩⟩), (1000009, ⟨⟨[0, 2, 7, 69], []⟩, [(1000000, ⟨[], []⟩)], ⟨[6], []⟩⟩), (1000021, ⟨⟨[0, 7, 137], []⟩, [(1000000, ⟨[], []⟩)], ⟨[6], []⟩⟩)]⟩),
(135, ⟨[], [], [(1000002, ⟨⟨[0, 3], []⟩, [(1000000, ⟨[2], []⟩)], ⟨[2], []⟩⟩), (1000003, ⟨⟨[0, 52], []⟩, [(1000000, ⟨[0], []⟩)], ⟨[2], []⟩⟩)]⟩),
(136, ⟨[], [], []⟩),
(137, ⟨[], [], []⟩),
(138, ⟨[], [], []⟩),
(139, ⟨[], [], []⟩),
(140, ⟨[], [], []⟩),
(141, ⟨[], [], [(3, ⟨⟨[0, 1, 2, 3, 11, 12], []⟩, [(0, ⟨[], []⟩)], ⟨[8, 9, 10], []⟩⟩)]⟩),
(142, ⟨[], [], []⟩),
(143, ⟨[], [], [(4, ⟨⟨[1, 3], []⟩, [(0, ⟨[], []⟩)], ⟨[2], []⟩⟩)]⟩),
(144, ⟨[], [none], [(10, ⟨⟨[2, 6, 7, 8], [(1000007, 1, .dat)]⟩, [(1, ⟨[6, 7], []⟩)], ⟨[6], []⟩⟩)]⟩),
(145, ⟨[], [], [(3, ⟨⟨[0, 3, 4], []⟩, [(0, ⟨[3], []⟩)], ⟨[2], []⟩⟩)]⟩),
(150, ⟨[], [], []⟩),
(151, ⟨[], [], [(5, ⟨⟨[0, 2, 4, 5], []⟩, [(0, ⟨[2, 4], []⟩)], ⟨[2, 3], []⟩⟩)]⟩),
(165, ⟨[], [], []⟩),
(168, ⟨[], [], []⟩),
(169, ⟨[], [], [(3, ⟨⟨[0, 3, 4], []⟩, [(0, ⟨[3], []⟩)], ⟨[2], []⟩⟩)]⟩),
(170, ⟨[], [], [(4, ⟨⟨[0, 3], []⟩, [(0, ⟨[], []⟩)], ⟨[2], []⟩⟩)]⟩),
(171, ⟨[], [], []⟩),
(172, ⟨[], [], []⟩),
(173, ⟨[], [], [(2, ⟨⟨[0, 1, 7, 8], []⟩, [(0, ⟨[], []⟩)], ⟨[4], []⟩⟩)]⟩),
(174, ⟨[], [], []⟩),
(175, ⟨[], [], []⟩),
(176, ⟨[], [], [(2, ⟨⟨[0, 1, 7, 8], []⟩, [(0, ⟨[], []⟩)], ⟨[4], []⟩⟩)]⟩),
(177, ⟨[], [], [(2, ⟨⟨[0, 1, 7, 8], []⟩, [(0, ⟨[], []⟩)], ⟨[4], []⟩⟩)]⟩),
(178, ⟨[], [], []⟩),
(179, ⟨[], [], []⟩),
(180, ⟨[], [], []⟩),
(181, ⟨[], [], [(8, ⟨⟨[1, 6, 8, 9, 10], [(8, 0, .own 99)]⟩, [(0, ⟨[6, 8], []⟩)], ⟨[6, 7], []⟩⟩)]⟩),
(182, ⟨[], [], [(6, ⟨⟨[1, 4, 6, 7, 8], []⟩, [(0, ⟨[4, 7], []⟩)], ⟨[4, 5], []⟩⟩)]⟩),
(183, ⟨[], [], [(6, ⟨⟨[1, 4, 6, 7, 8], [(7, 0, .own 99)]⟩, [(0, ⟨[4, 7], []⟩)], ⟨[4, 5], []⟩⟩)]⟩),
(202, ⟨[], [], []⟩),
(203, ⟨[], [], [(3, ⟨⟨[1, 3, 4], [(3, 0, .own 99)]⟩, [(0, ⟨[3], []⟩)], ⟨[2], []⟩⟩)]⟩)]
def fiF (f : Nat) : Fi := (look f fis).getD ⟨[], [], []⟩
noncomputable def C : Ctx := { ti := fun t => look t tis, fs := fun f => look f fns, fi := fiF }
def bodyOf (f : Func) : Code := f.body.getD .skip
def loopOf (f : Func) (k : Nat) : Code := (findLoop k (bodyOf f)).getD .skip
def cutOf (f : Func) (k : Nat) : Code := (findCut k (bodyOf f)).getD .skip
def liOf (l : List (Nat × Li)) (k : Nat) : Li := (look k l).getD ⟨⟨[], []⟩, [], ⟨[], []⟩⟩
theorem tis_ok : (tis.all fun x => tiB Try.prog x.1 x.2) = true := by kernel_rfl
theorem fns_all : (fns.all fun x => fnB (fiF x.1) x.2) = true := by kernel_rfl
theorem fnp (f : Nat) (x : Func) (r : List (Nat × Func)) (h : Try.prog.funcs[f]? = some x) (hr : ∀ y ∈ r, Try.prog.funcs[y.1]? = some y.2) : ∀ y ∈ (f, x) :: r, Try.prog.funcs[y.1]? = some y.2 := List.forall_mem_cons.2 ⟨h, hr⟩
set_option maxRecDepth 100000 in
theorem fns_prog : ∀ x ∈ fns, Try.prog.funcs[x.1]? = some x.2 := (fnp _ _ _ Try.func4
(fnp _ _ _ Try.func13
(fnp _ _ _ Try.func14
(fnp _ _ _ Try.func16
(fnp _ _ _ Try.func17
(fnp _ _ _ Try.func19
(fnp _ _ _ Try.func20
(fnp _ _ _ Try.func21
(fnp _ _ _ Try.func22
(fnp _ _ _ Try.func23
(fnp _ _ _ Try.func24
(fnp _ _ _ Try.func25
(fnp _ _ _ Try.func26
(fnp _ _ _ Try.func27
(fnp _ _ _ Try.func32
(fnp _ _ _ Try.func64
(fnp _ _ _ Try.func65
(fnp _ _ _ Try.func67
(fnp _ _ _ Try.func68
(fnp _ _ _ Try.func70
(fnp _ _ _ Try.func71
(fnp _ _ _ Try.func72
(fnp _ _ _ Try.func73
(fnp _ _ _ Try.func74
(fnp _ _ _ Try.func75
(fnp _ _ _ Try.func76
(fnp _ _ _ Try.func77
(fnp _ _ _ Try.func78
(fnp _ _ _ Try.func79
(fnp _ _ _ Try.func80
(fnp _ _ _ Try.func81
(fnp _ _ _ Try.func85
(fnp _ _ _ Try.func89
(fnp _ _ _ Try.func90
(fnp _ _ _ Try.func119
(fnp _ _ _ Try.func120
(fnp _ _ _ Try.func123
(fnp _ _ _ Try.func124
(fnp _ _ _ Try.func125
(fnp _ _ _ Try.func126
(fnp _ _ _ Try.func127
(fnp _ _ _ Try.func128
(fnp _ _ _ Try.func129
(fnp _ _ _ Try.func130
(fnp _ _ _ Try.func131
(fnp _ _ _ Try.func132
(fnp _ _ _ Try.func133
(fnp _ _ _ Try.func134
(fnp _ _ _ Try.func135
(fnp _ _ _ Try.func136
(fnp _ _ _ Try.func137
(fnp _ _ _ Try.func138
(fnp _ _ _ Try.func139
(fnp _ _ _ Try.func140
(fnp _ _ _ Try.func141
(fnp _ _ _ Try.func142
(fnp _ _ _ Try.func143
(fnp _ _ _ Try.func144
(fnp _ _ _ Try.func145
(fnp _ _ _ Try.func150
(fnp _ _ _ Try.func151
(fnp _ _ _ Try.func165
(fnp _ _ _ Try.func168
(fnp _ _ _ Try.func169
(fnp _ _ _ Try.func170
(fnp _ _ _ Try.func171
(fnp _ _ _ Try.func172
(fnp _ _ _ Try.func173
(fnp _ _ _ Try.func174
(fnp _ _ _ Try.func175
(fnp _ _ _ Try.func176
(fnp _ _ _ Try.func177
(fnp _ _ _ Try.func178
(fnp _ _ _ Try.func179
(fnp _ _ _ Try.func180
(fnp _ _ _ Try.func181
(fnp _ _ _ Try.func182
(fnp _ _ _ Try.func183
(fnp _ _ _ Try.func202
(fnp _ _ _ Try.func203
(fun _ h => by cases h)))))))))))))))))))))))))))))))))))))))))))))))))))))))))))))))))))))))))))))))))
theorem C_ok : CtxOK Try.prog C := ctx_ok tis_ok fns_prog
theorem C_fns : FnsOK Try.prog C := Go.Vsi.fns_ok fns_all
theorem C_follows : Try.prog.follows .mixedOrders = true := by kernel_rfl
def D0 (n : Nat) : CallF := noC
theorem D0_ok {X0 : CallF} (hX : CallF.Mono X0) : ∀ n g a K, D0 n g a K → callM C X0 n g a K := fun n => noC_ok
end Go.Vsi
end

section
set_option linter.unusedVariables false
namespace Go.Vsi
open Go.Proofs
section
variable {X0 : CallF} (hX : CallF.Mono X0)
include hX
abbrev laws_szDecl.a : List TS := [.a [.o .str, .o (.int .i64)], .c (.o (.int .i64))]
def laws_szDecl.u (n : Nat) (v : VA laws_szDecl.a) (K : RES → Prop) : Prop := laws_szDecl.c n v.1.1 v.1.2.1 v.2.1 (fun r0 => K ⟨.c (.int .i64 r0), []⟩)
theorem laws_szDecl_ok : ∀ n v K, laws_szDecl.u n v K → callM C X0 n 64 (fillA laws_szDecl.a v) K :=
 call_tell hX (fn := Try.f64) (c := bodyOf Try.f64) (by kernel_rfl) (by kernel_rfl) (A := laws_szDecl.a) (u := laws_szDecl.u) (fun _ _ h => h) (call := D0) (lp := fun n => noL) (D0_ok hX) (fun n => noL_ok) (fun n v K => by kernel_rfl)
def D1 (n : Nat) : CallF := orC 64 laws_szDecl.a (laws_szDecl.u n) (D0 n)
theorem D1_ok : ∀ n g a K, D1 n g a K → callM C X0 n g a K := fun n => orC_ok (laws_szDecl_ok hX n) (D0_ok hX n)
abbrev laws_szDeclS.a : List TS := [.c (.o (.dat 98 (.prod .str (.int .i64)))), .c (.o (.int .i64))]
def laws_szDeclS.u (n : Nat) (v : VA laws_szDeclS.a) (K : RES → Prop) : Prop := laws_szDeclS.c n v.1 v.2.1 (fun r0 => K ⟨.c (.int .i64 r0), []⟩)
abbrev laws_szDeclS.l5.s : ST := ⟨[(0, .c (.o (.dat 98 (.prod .str (.int .i64))))), (1, .c (.o (.int .i64))), (5, .c (.o (.int .i64)))], [], [], [], []⟩
def laws_szDeclS.l5.u (n : Nat) (v : laws_szDeclS.l5.s.V) (K : X → St → Prop) : Prop := laws_szDeclS.l5 n v.1.1 v.1.2.1 v.1.2.2.1 (fun y0 => K (.exit 0) ⟨[(1, .c (.int .i64 y0))], [], [], [], []⟩) (fun y0 => K .ret ⟨[(4, .c (.int .i64 y0))], [], [], [], []⟩)
theorem laws_szDeclS.l5_ok : ∀ n v K, laws_szDeclS.l5.u n v K → loopM C X0 n 13 5 (laws_szDeclS.l5.s.fill v) K :=
 loop_tell hX (fn := Try.f13) (c := bodyOf Try.f13) (a := loopOf Try.f13 5) (li := liOf (C.fi 13).loops 5) (by kernel_rfl) (by kernel_rfl) (of_decide_eq_true rfl) (by kernel_rfl) (by kernel_rfl) (T := laws_szDeclS.l5.s) (u := laws_szDeclS.l5.u) (fun _ _ h => h) (call := D1) (lp := fun n => noL) (D1_ok hX) (fun n => noL_ok) (fun n v K => by kernel_rfl)
theorem laws_szDeclS_ok : ∀ n v K, laws_szDeclS.u n v K → callM C X0 n 13 (fillA laws_szDeclS.a v) K :=
 call_tell hX (fn := Try.f13) (c := bodyOf Try.f13) (by kernel_rfl) (by kernel_rfl) (A := laws_szDeclS.a) (u := laws_szDeclS.u) (fun _ _ h => h) (call := D1) (lp := fun n => orL 5 laws_szDeclS.l5.s (laws_szDeclS.l5.u n) noL) (D1_ok hX) (fun n => (orL_ok (laws_szDeclS.l5_ok hX n) noL_ok)) (fun n v K => by kernel_rfl)
def D2 (n : Nat) : CallF := orC 13 laws_szDeclS.a (laws_szDeclS.u n) (D1 n)
theorem D2_ok : ∀ n g a K, D2 n g a K → callM C X0 n g a K := fun n => orC_ok (laws_szDeclS_ok hX n) (D1_ok hX n)
abbrev laws_szUint64S.a : List TS := [.c (.o (.dat 148 (.int .u64))), .c (.o (.int .i64))]
def laws_szUint64S.u (n : Nat) (v : VA laws_szUint64S.a) (K : RES → Prop) : Prop := laws_szUint64S.c n v.1 v.2.1 (fun r0 => K ⟨.c (.int .i64 r0), []⟩)
theorem laws_szUint64S_ok : ∀ n v K, laws_szUint64S.u n v K → callM C X0 n 142 (fillA laws_szUint64S.a v) K :=
 call_tell hX (fn := Try.f142) (c := bodyOf Try.f142) (by kernel_rfl) (by kernel_rfl) (A := laws_szUint64S.a) (u := laws_szUint64S.u) (fun _ _ h => h) (call := D2) (lp := fun n => noL) (D2_ok hX) (fun n => noL_ok) (fun n v K => by kernel_rfl)
def D3 (n : Nat) : CallF := orC 142 laws_szUint64S.a (laws_szUint64S.u n) (D2 n)
theorem D3_ok : ∀ n g a K, D3 n g a K → callM C X0 n g a K := fun n => orC_ok (laws_szUint64S_ok hX n) (D2_ok hX n)
abbrev laws_szBits.a : List TS := [.a [.o (.int .i64), .o (.dat 148 (.int .u64))], .c (.o (.int .i64))]
def laws_szBits.u (n : Nat) (v : VA laws_szBits.a) (K : RES → Prop) : Prop := laws_szBits.c n v.1.1 v.1.2.1 v.2.1 (fun r0 => K ⟨.c (.int .i64 r0), []⟩)
theorem laws_szBits_ok : ∀ n v K, laws_szBits.u n v K → callM C X0 n 81 (fillA laws_szBits.a v) K :=
 call_tell hX (fn := Try.f81) (c := bodyOf Try.f81) (by kernel_rfl) (by kernel_rfl) (A := laws_szBits.a) (u := laws_szBits.u) (fun _ _ h => h) (call := D3) (lp := fun n => noL) (D3_ok hX) (fun n => noL_ok) (fun n v K => by kernel_rfl)
def D4 (n : Nat) : CallF := orC 81 laws_szBits.a (laws_szBits.u n) (D3 n)
theorem D4_ok : ∀ n g a K, D4 n g a K → callM C X0 n g a K := fun n => orC_ok (laws_szBits_ok hX n) (D3_ok hX n)
abbrev laws_szInt64S.a : List TS := [.c (.o (.dat 2 (.int .i64))), .c (.o (.int .i64))]
def laws_szInt64S.u (n : Nat) (v : VA laws_szInt64S.a) (K : RES → Prop) : Prop := laws_szInt64S.c n v.1 v.2.1 (fun r0 => K ⟨.c (.int .i64 r0), []⟩)
theorem laws_szInt64S_ok : ∀ n v K, laws_szInt64S.u n v K → callM C X0 n 168 (fillA laws_szInt64S.a v) K :=
 call_tell hX (fn := Try.f168) (c := bodyOf Try.f168) (by kernel_rfl) (by kernel_rfl) (A := laws_szInt64S.a) (u := laws_szInt64S.u) (fun _ _ h => h) (call := D4) (lp := fun n => noL) (D4_ok hX) (fun n => noL_ok) (fun n v K => by kernel_rfl)
def D5 (n : Nat) : CallF := orC 168 laws_szInt64S.a (laws_szInt64S.u n) (D4 n)
theorem D5_ok : ∀ n g a K, D5 n g a K → callM C X0 n g a K := fun n => orC_ok (laws_szInt64S_ok hX n) (D4_ok hX n)
abbrev laws_szTNode.a : List TS := [.a [.o (.int .i64), .o (.int .i64), .o (.int .i64), .o (.int .i64), .o (.int .i64), .o (.dat 148 (.int .u64)), .o (.dat 2 (.int .i64))], .c (.o (.int .i64))]
def laws_szTNode.u (n : Nat) (v : VA laws_szTNode.a) (K : RES → Prop) : Prop := laws_szTNode.c n v.1.1 v.1.2.1 v.1.2.2.1 v.1.2.2.2.1 v.1.2.2.2.2.1 v.1.2.2.2.2.2.1 v.1.2.2.2.2.2.2.1 v.2.1 (fun r0 => K ⟨.c (.int .i64 r0), []⟩)
theorem laws_szTNode_ok : ∀ n v K, laws_szTNode.u n v K → callM C X0 n 119 (fillA laws_szTNode.a v) K :=
 call_tell hX (fn := Try.f119) (c := bodyOf Try.f119) (by kernel_rfl) (by kernel_rfl) (A := laws_szTNode.a) (u := laws_szTNode.u) (fun _ _ h => h) (call := D5) (lp := fun n => noL) (D5_ok hX) (fun n => noL_ok) (fun n v K => by kernel_rfl)
def D6 (n : Nat) : CallF := orC 119 laws_szTNode.a (laws_szTNode.u n) (D5 n)
theorem D6_ok : ∀ n g a K, D6 n g a K → callM C X0 n g a K := fun n => orC_ok (laws_szTNode_ok hX n) (D5_ok hX n)
abbrev laws_szTNodeS.a : List TS := [.c (.o (.dat 157 (.prod (.int .i64) (.prod (.int .i64) (.prod (.int .i64) (.prod (.int .i64) (.prod (.int .i64) (.prod (.sl 148 (.int .u64)) (.sl 2 (.int .i64)))))))))), .c (.o (.int .i64))]
def laws_szTNodeS.u (n : Nat) (v : VA laws_szTNodeS.a) (K : RES → Prop) : Prop := laws_szTNodeS.c n v.1 v.2.1 (fun r0 => K ⟨.c (.int .i64 r0), []⟩)
abbrev laws_szTNodeS.l5.s : ST := ⟨[(0, .c (.o (.dat 157 (.prod (.int .i64) (.prod (.int .i64) (.prod (.int .i64) (.prod (.int .i64) (.prod (.int .i64) (.prod (.sl 148 (.int .u64)) (.sl 2 (.int .i64))))))))))), (1, .c (.o (.int .i64))), (5, .c (.o (.int .i64)))], [], [], [], []⟩
def laws_szTNodeS.l5.u (n : Nat) (v : laws_szTNodeS.l5.s.V) (K : X → St → Prop) : Prop := laws_szTNodeS.l5 n v.1.1 v.1.2.1 v.1.2.2.1 (fun y0 => K (.exit 0) ⟨[(1, .c (.int .i64 y0))], [], [], [], []⟩) (fun y0 => K .ret ⟨[(4, .c (.int .i64 y0))], [], [], [], []⟩)
theorem laws_szTNodeS.l5_ok : ∀ n v K, laws_szTNodeS.l5.u n v K → loopM C X0 n 65 5 (laws_szTNodeS.l5.s.fill v) K :=
 loop_tell hX (fn := Try.f65) (c := bodyOf Try.f65) (a := loopOf Try.f65 5) (li := liOf (C.fi 65).loops 5) (by kernel_rfl) (by kernel_rfl) (of_decide_eq_true rfl) (by kernel_rfl) (by kernel_rfl) (T := laws_szTNodeS.l5.s) (u := laws_szTNodeS.l5.u) (fun _ _ h => h) (call := D6) (lp := fun n => noL) (D6_ok hX) (fun n => noL_ok) (fun n v K => by kernel_rfl)
theorem laws_szTNodeS_ok : ∀ n v K, laws_szTNodeS.u n v K → callM C X0 n 65 (fillA laws_szTNodeS.a v) K :=
 call_tell hX (fn := Try.f65) (c := bodyOf Try.f65) (by kernel_rfl) (by kernel_rfl) (A := laws_szTNodeS.a) (u := laws_szTNodeS.u) (fun _ _ h => h) (call := D6) (lp := fun n => orL 5 laws_szTNodeS.l5.s (laws_szTNodeS.l5.u n) noL) (D6_ok hX) (fun n => (orL_ok (laws_szTNodeS.l5_ok hX n) noL_ok)) (fun n v K => by kernel_rfl)
def D7 (n : Nat) : CallF := orC 65 laws_szTNodeS.a (laws_szTNodeS.u n) (D6 n)
theorem D7_ok : ∀ n g a K, D7 n g a K → callM C X0 n g a K := fun n => orC_ok (laws_szTNodeS_ok hX n) (D6_ok hX n)
abbrev laws_szTerm.a : List TS := [.a [.o (.dat 157 (.prod (.int .i64) (.prod (.int .i64) (.prod (.int .i64) (.prod (.int .i64) (.prod (.int .i64) (.prod (.sl 148 (.int .u64)) (.sl 2 (.int .i64)))))))))], .c (.o (.int .i64))]
def laws_szTerm.u (n : Nat) (v : VA laws_szTerm.a) (K : RES → Prop) : Prop := laws_szTerm.c n v.1.1 v.2.1 (fun r0 => K ⟨.c (.int .i64 r0), []⟩)
theorem laws_szTerm_ok : ∀ n v K, laws_szTerm.u n v K → callM C X0 n 14 (fillA laws_szTerm.a v) K :=
 call_tell hX (fn := Try.f14) (c := bodyOf Try.f14) (by kernel_rfl) (by kernel_rfl) (A := laws_szTerm.a) (u := laws_szTerm.u) (fun _ _ h => h) (call := D7) (lp := fun n => noL) (D7_ok hX) (fun n => noL_ok) (fun n v K => by kernel_rfl)
def D8 (n : Nat) : CallF := orC 14 laws_szTerm.a (laws_szTerm.u n) (D7 n)
theorem D8_ok : ∀ n g a K, D8 n g a K → callM C X0 n g a K := fun n => orC_ok (laws_szTerm_ok hX n) (D7_ok hX n)
abbrev laws_toDecl.a : List TS := [.a [.o .str, .o (.int .i64)]]
def laws_toDecl.u (n : Nat) (v : VA laws_toDecl.a) (K : RES → Prop) : Prop := laws_toDecl.c n v.1.1 v.1.2.1 (fun r0 r1 => K ⟨.agg [.str r0, .int .i64 r1], []⟩)
theorem laws_toDecl_ok : ∀ n v K, laws_toDecl.u n v K → callM C X0 n 67 (fillA laws_toDecl.a v) K :=
 call_tell hX (fn := Try.f67) (c := bodyOf Try.f67) (by kernel_rfl) (by kernel_rfl) (A := laws_toDecl.a) (u := laws_toDecl.u) (fun _ _ h => h) (call := D8) (lp := fun n => noL) (D8_ok hX) (fun n => noL_ok) (fun n v K => by kernel_rfl)
def D9 (n : Nat) : CallF := orC 67 laws_toDecl.a (laws_toDecl.u n) (D8 n)
theorem D9_ok : ∀ n g a K, D9 n g a K → callM C X0 n g a K := fun n => orC_ok (laws_toDecl_ok hX n) (D8_ok hX n)
abbrev laws_toDeclS.a : List TS := [.c (.o (.dat 98 (.prod .str (.int .i64))))]
def laws_toDeclS.u (n : Nat) (v : VA laws_toDeclS.a) (K : RES → Prop) : Prop := laws_toDeclS.c n v.1 (fun r0 => K ⟨.c (.row ⟨100, .prod .str (.int .i64), r0, 99, none⟩), []⟩)
abbrev laws_toDeclS.l3.s : ST := ⟨[(0, .c (.o (.dat 98 (.prod .str (.int .i64))))), (3, .c (.o (.own 224))), (4, .c (.o (.int .i64)))], [⟨224, 100, .prod .str (.int .i64), 99⟩], [], [], []⟩
def laws_toDeclS.l3.u (n : Nat) (v : laws_toDeclS.l3.s.V) (K : X → St → Prop) : Prop := laws_toDeclS.l3 n v.1.1 v.1.2.2.1 v.2.1.1 (fun y0 => K (.exit 0) ⟨[(3, .c (.own 224))], [(224, ⟨100, .prod .str (.int .i64), y0, 99, none⟩)], [], [], []⟩)
theorem laws_toDeclS.l3_ok : ∀ n v K, laws_toDeclS.l3.u n v K → loopM C X0 n 16 3 (laws_toDeclS.l3.s.fill v) K :=
 loop_tell hX (fn := Try.f16) (c := bodyOf Try.f16) (a := loopOf Try.f16 3) (li := liOf (C.fi 16).loops 3) (by kernel_rfl) (by kernel_rfl) (of_decide_eq_true rfl) (by kernel_rfl) (by kernel_rfl) (T := laws_toDeclS.l3.s) (u := laws_toDeclS.l3.u) (fun _ _ h => h) (call := D9) (lp := fun n => noL) (D9_ok hX) (fun n => noL_ok) (fun n v K => by kernel_rfl)
theorem laws_toDeclS_ok : ∀ n v K, laws_toDeclS.u n v K → callM C X0 n 16 (fillA laws_toDeclS.a v) K :=
 call_tell hX (fn := Try.f16) (c := bodyOf Try.f16) (by kernel_rfl) (by kernel_rfl) (A := laws_toDeclS.a) (u := laws_toDeclS.u) (fun _ _ h => h) (call := D9) (lp := fun n => orL 3 laws_toDeclS.l3.s (laws_toDeclS.l3.u n) noL) (D9_ok hX) (fun n => (orL_ok (laws_toDeclS.l3_ok hX n) noL_ok)) (fun n v K => by kernel_rfl)
def D10 (n : Nat) : CallF := orC 16 laws_toDeclS.a (laws_toDeclS.u n) (D9 n)
theorem D10_ok : ∀ n g a K, D10 n g a K → callM C X0 n g a K := fun n => orC_ok (laws_toDeclS_ok hX n) (D9_ok hX n)
abbrev laws_toUint64S.a : List TS := [.c (.o (.dat 148 (.int .u64)))]
def laws_toUint64S.u (n : Nat) (v : VA laws_toUint64S.a) (K : RES → Prop) : Prop := laws_toUint64S.c n v.1 (fun r0 => K ⟨.c (.row ⟨148, .int .u64, r0, 99, none⟩), []⟩)
abbrev laws_toUint64S.l3.s : ST := ⟨[(0, .c (.o (.dat 148 (.int .u64)))), (3, .c (.o (.own 224))), (4, .c (.o (.int .i64)))], [⟨224, 148, .int .u64, 99⟩], [], [], []⟩
def laws_toUint64S.l3.u (n : Nat) (v : laws_toUint64S.l3.s.V) (K : X → St → Prop) : Prop := laws_toUint64S.l3 n v.1.1 v.1.2.2.1 v.2.1.1 (fun y0 => K (.exit 0) ⟨[(3, .c (.own 224))], [(224, ⟨148, .int .u64, y0, 99, none⟩)], [], [], []⟩)
theorem laws_toUint64S.l3_ok : ∀ n v K, laws_toUint64S.l3.u n v K → loopM C X0 n 145 3 (laws_toUint64S.l3.s.fill v) K :=
 loop_tell hX (fn := Try.f145) (c := bodyOf Try.f145) (a := loopOf Try.f145 3) (li := liOf (C.fi 145).loops 3) (by kernel_rfl) (by kernel_rfl) (of_decide_eq_true rfl) (by kernel_rfl) (by kernel_rfl) (T := laws_toUint64S.l3.s) (u := laws_toUint64S.l3.u) (fun _ _ h => h) (call := D10) (lp := fun n => noL) (D10_ok hX) (fun n => noL_ok) (fun n v K => by kernel_rfl)
theorem laws_toUint64S_ok : ∀ n v K, laws_toUint64S.u n v K → callM C X0 n 145 (fillA laws_toUint64S.a v) K :=
 call_tell hX (fn := Try.f145) (c := bodyOf Try.f145) (by kernel_rfl) (by kernel_rfl) (A := laws_toUint64S.a) (u := laws_toUint64S.u) (fun _ _ h => h) (call := D10) (lp := fun n => orL 3 laws_toUint64S.l3.s (laws_toUint64S.l3.u n) noL) (D10_ok hX) (fun n => (orL_ok (laws_toUint64S.l3_ok hX n) noL_ok)) (fun n v K => by kernel_rfl)
def D11 (n : Nat) : CallF := orC 145 laws_toUint64S.a (laws_toUint64S.u n) (D10 n)
theorem D11_ok : ∀ n g a K, D11 n g a K → callM C X0 n g a K := fun n => orC_ok (laws_toUint64S_ok hX n) (D10_ok hX n)
abbrev laws_toBits.a : List TS := [.a [.o (.int .i64), .o (.dat 148 (.int .u64))]]
def laws_toBits.u (n : Nat) (v : VA laws_toBits.a) (K : RES → Prop) : Prop := laws_toBits.c n v.1.1 v.1.2.1 (fun r0 r1 => K ⟨.agg [.int .i64 r0, .row ⟨148, .int .u64, r1, 99, none⟩], []⟩)
theorem laws_toBits_ok : ∀ n v K, laws_toBits.u n v K → callM C X0 n 85 (fillA laws_toBits.a v) K :=
 call_tell hX (fn := Try.f85) (c := bodyOf Try.f85) (by kernel_rfl) (by kernel_rfl) (A := laws_toBits.a) (u := laws_toBits.u) (fun _ _ h => h) (call := D11) (lp := fun n => noL) (D11_ok hX) (fun n => noL_ok) (fun n v K => by kernel_rfl)
def D12 (n : Nat) : CallF := orC 85 laws_toBits.a (laws_toBits.u n) (D11 n)
theorem D12_ok : ∀ n g a K, D12 n g a K → callM C X0 n g a K := fun n => orC_ok (laws_toBits_ok hX n) (D11_ok hX n)
abbrev laws_toInt64S.a : List TS := [.c (.o (.dat 2 (.int .i64)))]
def laws_toInt64S.u (n : Nat) (v : VA laws_toInt64S.a) (K : RES → Prop) : Prop := laws_toInt64S.c n v.1 (fun r0 => K ⟨.c (.row ⟨2, .int .i64, r0, 99, none⟩), []⟩)
abbrev laws_toInt64S.l3.s : ST := ⟨[(0, .c (.o (.dat 2 (.int .i64)))), (3, .c (.o (.own 224))), (4, .c (.o (.int .i64)))], [⟨224, 2, .int .i64, 99⟩], [], [], []⟩
def laws_toInt64S.l3.u (n : Nat) (v : laws_toInt64S.l3.s.V) (K : X → St → Prop) : Prop := laws_toInt64S.l3 n v.1.1 v.1.2.2.1 v.2.1.1 (fun y0 => K (.exit 0) ⟨[(3, .c (.own 224))], [(224, ⟨2, .int .i64, y0, 99, none⟩)], [], [], []⟩)
theorem laws_toInt64S.l3_ok : ∀ n v K, laws_toInt64S.l3.u n v K → loopM C X0 n 169 3 (laws_toInt64S.l3.s.fill v) K :=
 loop_tell hX (fn := Try.f169) (c := bodyOf Try.f169) (a := loopOf Try.f169 3) (li := liOf (C.fi 169).loops 3) (by kernel_rfl) (by kernel_rfl) (of_decide_eq_true rfl) (by kernel_rfl) (by kernel_rfl) (T := laws_toInt64S.l3.s) (u := laws_toInt64S.l3.u) (fun _ _ h => h) (call := D12) (lp := fun n => noL) (D12_ok hX) (fun n => noL_ok) (fun n v K => by kernel_rfl)
theorem laws_toInt64S_ok : ∀ n v K, laws_toInt64S.u n v K → callM C X0 n 169 (fillA laws_toInt64S.a v) K :=
 call_tell hX (fn := Try.f169) (c := bodyOf Try.f169) (by kernel_rfl) (by kernel_rfl) (A := laws_toInt64S.a) (u := laws_toInt64S.u) (fun _ _ h => h) (call := D12) (lp := fun n => orL 3 laws_toInt64S.l3.s (laws_toInt64S.l3.u n) noL) (D12_ok hX) (fun n => (orL_ok (laws_toInt64S.l3_ok hX n) noL_ok)) (fun n v K => by kernel_rfl)
def D13 (n : Nat) : CallF := orC 169 laws_toInt64S.a (laws_toInt64S.u n) (D12 n)
theorem D13_ok : ∀ n g a K, D13 n g a K → callM C X0 n g a K := fun n => orC_ok (laws_toInt64S_ok hX n) (D12_ok hX n)
abbrev laws_toTNode.a : List TS := [.a [.o (.int .i64), .o (.int .i64), .o (.int .i64), .o (.int .i64), .o (.int .i64), .o (.dat 148 (.int .u64)), .o (.dat 2 (.int .i64))]]
def laws_toTNode.u (n : Nat) (v : VA laws_toTNode.a) (K : RES → Prop) : Prop := laws_toTNode.c n v.1.1 v.1.2.1 v.1.2.2.1 v.1.2.2.2.1 v.1.2.2.2.2.1 v.1.2.2.2.2.2.1 v.1.2.2.2.2.2.2.1 (fun r0 r1 r2 r3 r4 r5 r6 => K ⟨.agg [.int .i64 r0, .int .i64 r1, .int .i64 r2, .int .i64 r3, .int .i64 r4, .row ⟨148, .int .u64, r5, 99, none⟩, .row ⟨2, .int .i64, r6, 99, none⟩], []⟩)
theorem laws_toTNode_ok : ∀ n v K, laws_toTNode.u n v K → callM C X0 n 120 (fillA laws_toTNode.a v) K :=
 call_tell hX (fn := Try.f120) (c := bodyOf Try.f120) (by kernel_rfl) (by kernel_rfl) (A := laws_toTNode.a) (u := laws_toTNode.u) (fun _ _ h => h) (call := D13) (lp := fun n => noL) (D13_ok hX) (fun n => noL_ok) (fun n v K => by kernel_rfl)
def D14 (n : Nat) : CallF := orC 120 laws_toTNode.a (laws_toTNode.u n) (D13 n)
theorem D14_ok : ∀ n g a K, D14 n g a K → callM C X0 n g a K := fun n => orC_ok (laws_toTNode_ok hX n) (D13_ok hX n)
abbrev laws_toTNodeS.a : List TS := [.c (.o (.dat 157 (.prod (.int .i64) (.prod (.int .i64) (.prod (.int .i64) (.prod (.int .i64) (.prod (.int .i64) (.prod (.sl 148 (.int .u64)) (.sl 2 (.int .i64))))))))))]
def laws_toTNodeS.u (n : Nat) (v : VA laws_toTNodeS.a) (K : RES → Prop) : Prop := laws_toTNodeS.c n v.1 (fun r0 => K ⟨.c (.row ⟨129, .prod (.int .i64) (.prod (.int .i64) (.prod (.int .i64) (.prod (.int .i64) (.prod (.int .i64) (.prod (.sl 148 (.int .u64)) (.sl 2 (.int .i64))))))), r0, 99, none⟩), []⟩)
abbrev laws_toTNodeS.l3.s : ST := ⟨[(0, .c (.o (.dat 157 (.prod (.int .i64) (.prod (.int .i64) (.prod (.int .i64) (.prod (.int .i64) (.prod (.int .i64) (.prod (.sl 148 (.int .u64)) (.sl 2 (.int .i64))))))))))), (3, .c (.o (.own 224))), (4, .c (.o (.int .i64)))], [⟨224, 129, .prod (.int .i64) (.prod (.int .i64) (.prod (.int .i64) (.prod (.int .i64) (.prod (.int .i64) (.prod (.sl 148 (.int .u64)) (.sl 2 (.int .i64))))))), 99⟩], [], [], []⟩
def laws_toTNodeS.l3.u (n : Nat) (v : laws_toTNodeS.l3.s.V) (K : X → St → Prop) : Prop := laws_toTNodeS.l3 n v.1.1 v.1.2.2.1 v.2.1.1 (fun y0 => K (.exit 0) ⟨[(3, .c (.own 224))], [(224, ⟨129, .prod (.int .i64) (.prod (.int .i64) (.prod (.int .i64) (.prod (.int .i64) (.prod (.int .i64) (.prod (.sl 148 (.int .u64)) (.sl 2 (.int .i64))))))), y0, 99, none⟩)], [], [], []⟩)
theorem laws_toTNodeS.l3_ok : ∀ n v K, laws_toTNodeS.l3.u n v K → loopM C X0 n 68 3 (laws_toTNodeS.l3.s.fill v) K :=
 loop_tell hX (fn := Try.f68) (c := bodyOf Try.f68) (a := loopOf Try.f68 3) (li := liOf (C.fi 68).loops 3) (by kernel_rfl) (by kernel_rfl) (of_decide_eq_true rfl) (by kernel_rfl) (by kernel_rfl) (T := laws_toTNodeS.l3.s) (u := laws_toTNodeS.l3.u) (fun _ _ h => h) (call := D14) (lp := fun n => noL) (D14_ok hX) (fun n => noL_ok) (fun n v K => by kernel_rfl)
theorem laws_toTNodeS_ok : ∀ n v K, laws_toTNodeS.u n v K → callM C X0 n 68 (fillA laws_toTNodeS.a v) K :=
 call_tell hX (fn := Try.f68) (c := bodyOf Try.f68) (by kernel_rfl) (by kernel_rfl) (A := laws_toTNodeS.a) (u := laws_toTNodeS.u) (fun _ _ h => h) (call := D14) (lp := fun n => orL 3 laws_toTNodeS.l3.s (laws_toTNodeS.l3.u n) noL) (D14_ok hX) (fun n => (orL_ok (laws_toTNodeS.l3_ok hX n) noL_ok)) (fun n v K => by kernel_rfl)
def D15 (n : Nat) : CallF := orC 68 laws_toTNodeS.a (laws_toTNodeS.u n) (D14 n)
theorem D15_ok : ∀ n g a K, D15 n g a K → callM C X0 n g a K := fun n => orC_ok (laws_toTNodeS_ok hX n) (D14_ok hX n)
abbrev laws_toTerm.a : List TS := [.a [.o (.dat 157 (.prod (.int .i64) (.prod (.int .i64) (.prod (.int .i64) (.prod (.int .i64) (.prod (.int .i64) (.prod (.sl 148 (.int .u64)) (.sl 2 (.int .i64)))))))))]]
def laws_toTerm.u (n : Nat) (v : VA laws_toTerm.a) (K : RES → Prop) : Prop := laws_toTerm.c n v.1.1 (fun r0 => K ⟨.agg [.row ⟨129, .prod (.int .i64) (.prod (.int .i64) (.prod (.int .i64) (.prod (.int .i64) (.prod (.int .i64) (.prod (.sl 148 (.int .u64)) (.sl 2 (.int .i64))))))), r0, 99, none⟩], []⟩)
theorem laws_toTerm_ok : ∀ n v K, laws_toTerm.u n v K → callM C X0 n 17 (fillA laws_toTerm.a v) K :=
 call_tell hX (fn := Try.f17) (c := bodyOf Try.f17) (by kernel_rfl) (by kernel_rfl) (A := laws_toTerm.a) (u := laws_toTerm.u) (fun _ _ h => h) (call := D15) (lp := fun n => noL) (D15_ok hX) (fun n => noL_ok) (fun n v K => by kernel_rfl)
def D16 (n : Nat) : CallF := orC 17 laws_toTerm.a (laws_toTerm.u n) (D15 n)
theorem D16_ok : ∀ n g a K, D16 n g a K → callM C X0 n g a K := fun n => orC_ok (laws_toTerm_ok hX n) (D15_ok hX n)
abbrev spec_l1Digit.a : List TS := [.c (.o (.int .u8))]
def spec_l1Digit.u (n : Nat) (v : VA spec_l1Digit.a) (K : RES → Prop) : Prop := spec_l1Digit.c n v.1 (fun r0 => K ⟨.c (.bool r0), []⟩)
theorem spec_l1Digit_ok : ∀ n v K, spec_l1Digit.u n v K → callM C X0 n 202 (fillA spec_l1Digit.a v) K :=
 call_tell hX (fn := Try.f202) (c := bodyOf Try.f202) (by kernel_rfl) (by kernel_rfl) (A := spec_l1Digit.a) (u := spec_l1Digit.u) (fun _ _ h => h) (call := D16) (lp := fun n => noL) (D16_ok hX) (fun n => noL_ok) (fun n v K => by kernel_rfl)
def D17 (n : Nat) : CallF := orC 202 spec_l1Digit.a (spec_l1Digit.u n) (D16 n)
theorem D17_ok : ∀ n g a K, D17 n g a K → callM C X0 n g a K := fun n => orC_ok (spec_l1Digit_ok hX n) (D16_ok hX n)
abbrev spec_l1Name.a : List TS := [.c (.o .str)]
def spec_l1Name.u (n : Nat) (v : VA spec_l1Name.a) (K : RES → Prop) : Prop := spec_l1Name.c n v.1 (fun r0 => K ⟨.c (.bool r0), []⟩)
abbrev spec_l1Name.l4.s : ST := ⟨[(0, .c (.o .str)), (3, .c (.o (.int .i64)))], [], [], [], []⟩
def spec_l1Name.l4.u (n : Nat) (v : spec_l1Name.l4.s.V) (K : X → St → Prop) : Prop := spec_l1Name.l4 n v.1.1 v.1.2.1 (K (.exit 0) ⟨[], [], [], [], []⟩) (fun y0 => K .ret ⟨[(2, .c (.bool y0))], [], [], [], []⟩)
theorem spec_l1Name.l4_ok : ∀ n v K, spec_l1Name.l4.u n v K → loopM C X0 n 170 4 (spec_l1Name.l4.s.fill v) K :=
 loop_tell hX (fn := Try.f170) (c := bodyOf Try.f170) (a := loopOf Try.f170 4) (li := liOf (C.fi 170).loops 4) (by kernel_rfl) (by kernel_rfl) (of_decide_eq_true rfl) (by kernel_rfl) (by kernel_rfl) (T := spec_l1Name.l4.s) (u := spec_l1Name.l4.u) (fun _ _ h => h) (call := D17) (lp := fun n => noL) (D17_ok hX) (fun n => noL_ok) (fun n v K => by kernel_rfl)
theorem spec_l1Name_ok : ∀ n v K, spec_l1Name.u n v K → callM C X0 n 170 (fillA spec_l1Name.a v) K :=
 call_tell hX (fn := Try.f170) (c := bodyOf Try.f170) (by kernel_rfl) (by kernel_rfl) (A := spec_l1Name.a) (u := spec_l1Name.u) (fun _ _ h => h) (call := D17) (lp := fun n => orL 4 spec_l1Name.l4.s (spec_l1Name.l4.u n) noL) (D17_ok hX) (fun n => (orL_ok (spec_l1Name.l4_ok hX n) noL_ok)) (fun n v K => by kernel_rfl)
def D18 (n : Nat) : CallF := orC 170 spec_l1Name.a (spec_l1Name.u n) (D17 n)
theorem D18_ok : ∀ n g a K, D18 n g a K → callM C X0 n g a K := fun n => orC_ok (spec_l1Name_ok hX n) (D17_ok hX n)
abbrev spec_l1In.a : List TS := [.c (.o (.int .i64)), .c (.o (.int .i64)), .c (.o (.int .i64))]
def spec_l1In.u (n : Nat) (v : VA spec_l1In.a) (K : RES → Prop) : Prop := spec_l1In.c n v.1 v.2.1 v.2.2.1 (fun r0 => K ⟨.c (.bool r0), []⟩)
theorem spec_l1In_ok : ∀ n v K, spec_l1In.u n v K → callM C X0 n 73 (fillA spec_l1In.a v) K :=
 call_tell hX (fn := Try.f73) (c := bodyOf Try.f73) (by kernel_rfl) (by kernel_rfl) (A := spec_l1In.a) (u := spec_l1In.u) (fun _ _ h => h) (call := D18) (lp := fun n => noL) (D18_ok hX) (fun n => noL_ok) (fun n v K => by kernel_rfl)
def D19 (n : Nat) : CallF := orC 73 spec_l1In.a (spec_l1In.u n) (D18 n)
theorem D19_ok : ∀ n g a K, D19 n g a K → callM C X0 n g a K := fun n => orC_ok (spec_l1In_ok hX n) (D18_ok hX n)
abbrev spec_DeclsOk.a : List TS := [.c (.o (.dat 100 (.prod .str (.int .i64))))]
def spec_DeclsOk.u (n : Nat) (v : VA spec_DeclsOk.a) (K : RES → Prop) : Prop := spec_DeclsOk.c n v.1 (fun r0 => K ⟨.c (.bool r0), []⟩)
abbrev spec_DeclsOk.l10.s : ST := ⟨[(0, .c (.o (.dat 100 (.prod .str (.int .i64))))), (3, .c (.o (.int .i64))), (4, .c (.o (.int .i64))), (5, .c (.o (.int .i64)))], [], [], [], []⟩
def spec_DeclsOk.l10.u (n : Nat) (v : spec_DeclsOk.l10.s.V) (K : X → St → Prop) : Prop := spec_DeclsOk.l10 n v.1.1 v.1.2.1 v.1.2.2.1 v.1.2.2.2.1 (fun y0 y1 y2 => K (.exit 2) ⟨[(0, .c (.dat 100 (.prod .str (.int .i64)) y0)), (3, .c (.int .i64 y1)), (4, .c (.int .i64 y2))], [], [], [], []⟩) (fun y0 => K .ret ⟨[(2, .c (.bool y0))], [], [], [], []⟩)
abbrev spec_DeclsOk.l5.s : ST := ⟨[(0, .c (.o (.dat 100 (.prod .str (.int .i64))))), (3, .c (.o (.int .i64))), (4, .c (.o (.int .i64)))], [], [], [], []⟩
def spec_DeclsOk.l5.u (n : Nat) (v : spec_DeclsOk.l5.s.V) (K : X → St → Prop) : Prop := spec_DeclsOk.l5 n v.1.1 v.1.2.1 v.1.2.2.1 (fun y0 => K (.exit 0) ⟨[(3, .c (.int .i64 y0))], [], [], [], []⟩) (fun y0 => K .ret ⟨[(2, .c (.bool y0))], [], [], [], []⟩)
theorem spec_DeclsOk.l10_ok : ∀ n v K, spec_DeclsOk.l10.u n v K → loopM C X0 n 124 10 (spec_DeclsOk.l10.s.fill v) K :=
 loop_tell hX (fn := Try.f124) (c := bodyOf Try.f124) (a := loopOf Try.f124 10) (li := liOf (C.fi 124).loops 10) (by kernel_rfl) (by kernel_rfl) (of_decide_eq_true rfl) (by kernel_rfl) (by kernel_rfl) (T := spec_DeclsOk.l10.s) (u := spec_DeclsOk.l10.u) (fun _ _ h => h) (call := D19) (lp := fun n => noL) (D19_ok hX) (fun n => noL_ok) (fun n v K => by kernel_rfl)
theorem spec_DeclsOk.l5_ok : ∀ n v K, spec_DeclsOk.l5.u n v K → loopM C X0 n 124 5 (spec_DeclsOk.l5.s.fill v) K :=
 loop_tell hX (fn := Try.f124) (c := bodyOf Try.f124) (a := loopOf Try.f124 5) (li := liOf (C.fi 124).loops 5) (by kernel_rfl) (by kernel_rfl) (of_decide_eq_true rfl) (by kernel_rfl) (by kernel_rfl) (T := spec_DeclsOk.l5.s) (u := spec_DeclsOk.l5.u) (fun _ _ h => h) (call := D19) (lp := fun n => orL 10 spec_DeclsOk.l10.s (spec_DeclsOk.l10.u n) noL) (D19_ok hX) (fun n => (orL_ok (spec_DeclsOk.l10_ok hX n) noL_ok)) (fun n v K => by kernel_rfl)
theorem spec_DeclsOk_ok : ∀ n v K, spec_DeclsOk.u n v K → callM C X0 n 124 (fillA spec_DeclsOk.a v) K :=
 call_tell hX (fn := Try.f124) (c := bodyOf Try.f124) (by kernel_rfl) (by kernel_rfl) (A := spec_DeclsOk.a) (u := spec_DeclsOk.u) (fun _ _ h => h) (call := D19) (lp := fun n => orL 5 spec_DeclsOk.l5.s (spec_DeclsOk.l5.u n) noL) (D19_ok hX) (fun n => (orL_ok (spec_DeclsOk.l5_ok hX n) noL_ok)) (fun n v K => by kernel_rfl)
def D20 (n : Nat) : CallF := orC 124 spec_DeclsOk.a (spec_DeclsOk.u n) (D19 n)
theorem D20_ok : ∀ n g a K, D20 n g a K → callM C X0 n g a K := fun n => orC_ok (spec_DeclsOk_ok hX n) (D19_ok hX n)
abbrev spec_l1Bit.a : List TS := [.a [.o (.int .i64), .o (.dat 148 (.int .u64))], .c (.o (.int .i64))]
def spec_l1Bit.u (n : Nat) (v : VA spec_l1Bit.a) (K : RES → Prop) : Prop := spec_l1Bit.c n v.1.1 v.1.2.1 v.2.1 (fun r0 => K ⟨.c (.int .u8 r0), []⟩)
theorem spec_l1Bit_ok : ∀ n v K, spec_l1Bit.u n v K → callM C X0 n 150 (fillA spec_l1Bit.a v) K :=
 call_tell hX (fn := Try.f150) (c := bodyOf Try.f150) (by kernel_rfl) (by kernel_rfl) (A := spec_l1Bit.a) (u := spec_l1Bit.u) (fun _ _ h => h) (call := D20) (lp := fun n => noL) (D20_ok hX) (fun n => noL_ok) (fun n v K => by kernel_rfl)
def D21 (n : Nat) : CallF := orC 150 spec_l1Bit.a (spec_l1Bit.u n) (D20 n)
theorem D21_ok : ∀ n g a K, D21 n g a K → callM C X0 n g a K := fun n => orC_ok (spec_l1Bit_ok hX n) (D20_ok hX n)
abbrev spec_BitsOk.a : List TS := [.a [.o (.int .i64), .o (.dat 148 (.int .u64))]]
def spec_BitsOk.u (n : Nat) (v : VA spec_BitsOk.a) (K : RES → Prop) : Prop := spec_BitsOk.c n v.1.1 v.1.2.1 (fun r0 => K ⟨.c (.bool r0), []⟩)
abbrev spec_BitsOk.l4.s : ST := ⟨[(1, .c (.o (.pbox 1 0))), (3, .c (.o (.int .i64)))], [], [⟨1, 49, [.o (.int .i64), .o (.dat 148 (.int .u64))], false⟩], [], []⟩
def spec_BitsOk.l4.u (n : Nat) (v : spec_BitsOk.l4.s.V) (K : X → St → Prop) : Prop := spec_BitsOk.l4 n v.2.2.1.1 v.2.2.1.2.1 v.1.2.1 (K (.exit 0) ⟨[], [], [], [], []⟩) (fun y0 => K .ret ⟨[(2, .c (.bool y0))], [], [], [], []⟩)
theorem spec_BitsOk.l4_ok : ∀ n v K, spec_BitsOk.l4.u n v K → loopM C X0 n 143 4 (spec_BitsOk.l4.s.fill v) K :=
 loop_tell hX (fn := Try.f143) (c := bodyOf Try.f143) (a := loopOf Try.f143 4) (li := liOf (C.fi 143).loops 4) (by kernel_rfl) (by kernel_rfl) (of_decide_eq_true rfl) (by kernel_rfl) (by kernel_rfl) (T := spec_BitsOk.l4.s) (u := spec_BitsOk.l4.u) (fun _ _ h => h) (call := D21) (lp := fun n => noL) (D21_ok hX) (fun n => noL_ok) (fun n v K => by kernel_rfl)
theorem spec_BitsOk_ok : ∀ n v K, spec_BitsOk.u n v K → callM C X0 n 143 (fillA spec_BitsOk.a v) K :=
 call_tell hX (fn := Try.f143) (c := bodyOf Try.f143) (by kernel_rfl) (by kernel_rfl) (A := spec_BitsOk.a) (u := spec_BitsOk.u) (fun _ _ h => h) (call := D21) (lp := fun n => orL 4 spec_BitsOk.l4.s (spec_BitsOk.l4.u n) noL) (D21_ok hX) (fun n => (orL_ok (spec_BitsOk.l4_ok hX n) noL_ok)) (fun n v K => by kernel_rfl)
def D22 (n : Nat) : CallF := orC 143 spec_BitsOk.a (spec_BitsOk.u n) (D21 n)
theorem D22_ok : ∀ n g a K, D22 n g a K → callM C X0 n g a K := fun n => orC_ok (spec_BitsOk_ok hX n) (D21_ok hX n)
abbrev spec_l3NoBits.a : List TS := [.a [.o (.int .i64), .o (.dat 148 (.int .u64))]]
def spec_l3NoBits.u (n : Nat) (v : VA spec_l3NoBits.a) (K : RES → Prop) : Prop := spec_l3NoBits.c n v.1.1 v.1.2.1 (fun r0 => K ⟨.c (.bool r0), []⟩)
theorem spec_l3NoBits_ok : ∀ n v K, spec_l3NoBits.u n v K → callM C X0 n 171 (fillA spec_l3NoBits.a v) K :=
 call_tell hX (fn := Try.f171) (c := bodyOf Try.f171) (by kernel_rfl) (by kernel_rfl) (A := spec_l3NoBits.a) (u := spec_l3NoBits.u) (fun _ _ h => h) (call := D22) (lp := fun n => noL) (D22_ok hX) (fun n => noL_ok) (fun n v K => by kernel_rfl)
def D23 (n : Nat) : CallF := orC 171 spec_l3NoBits.a (spec_l3NoBits.u n) (D22 n)
theorem D23_ok : ∀ n g a K, D23 n g a K → callM C X0 n g a K := fun n => orC_ok (spec_l3NoBits_ok hX n) (D22_ok hX n)
abbrev spec_l3One.a : List TS := [.c (.o (.int .i64))]
def spec_l3One.u (n : Nat) (v : VA spec_l3One.a) (K : RES → Prop) : Prop := spec_l3One.c n v.1 (fun r0 => K ⟨.c (.bool r0), []⟩)
theorem spec_l3One_ok : ∀ n v K, spec_l3One.u n v K → callM C X0 n 172 (fillA spec_l3One.a v) K :=
 call_tell hX (fn := Try.f172) (c := bodyOf Try.f172) (by kernel_rfl) (by kernel_rfl) (A := spec_l3One.a) (u := spec_l3One.u) (fun _ _ h => h) (call := D23) (lp := fun n => noL) (D23_ok hX) (fun n => noL_ok) (fun n v K => by kernel_rfl)
def D24 (n : Nat) : CallF := orC 172 spec_l3One.a (spec_l3One.u n) (D23 n)
theorem D24_ok : ∀ n g a K, D24 n g a K → callM C X0 n g a K := fun n => orC_ok (spec_l3One_ok hX n) (D23_ok hX n)
abbrev spec_l3Form.a : List TS := [.c (.o (.dat 100 (.prod .str (.int .i64)))), .a [.o (.int .i64), .o (.int .i64), .o (.int .i64), .o (.int .i64), .o (.int .i64), .o (.dat 148 (.int .u64)), .o (.dat 2 (.int .i64))], .c (.o (.int .i64))]
def spec_l3Form.u (n : Nat) (v : VA spec_l3Form.a) (K : RES → Prop) : Prop := spec_l3Form.c n v.1 v.2.1.1 v.2.1.2.1 v.2.1.2.2.1 v.2.1.2.2.2.1 v.2.1.2.2.2.2.1 v.2.1.2.2.2.2.2.1 v.2.1.2.2.2.2.2.2.1 v.2.2.1 (fun r0 => K ⟨.c (.bool r0), []⟩)
abbrev spec_l3Form.l2.s : ST := ⟨[(0, .c (.o (.dat 100 (.prod .str (.int .i64))))), (2, .c (.o (.int .i64))), (4, .c (.o (.pbox 4 0))), (7, .c (.o (.int .i64)))], [], [⟨4, 129, [.o (.int .i64), .o (.int .i64), .o (.int .i64), .o (.int .i64), .o (.int .i64), .o (.dat 148 (.int .u64)), .o (.dat 2 (.int .i64))], false⟩], [], []⟩
def spec_l3Form.l2.u (n : Nat) (v : spec_l3Form.l2.s.V) (K : X → St → Prop) : Prop := spec_l3Form.l2 n v.1.1 v.1.2.1 v.2.2.1.1 v.2.2.1.2.1 v.2.2.1.2.2.1 v.2.2.1.2.2.2.1 v.2.2.1.2.2.2.2.1 v.2.2.1.2.2.2.2.2.1 v.2.2.1.2.2.2.2.2.2.1 v.1.2.2.2.1 (fun y0 y1 y2 y3 y4 y5 y6 y7 => K (.exit 0) ⟨[(0, .c (.dat 100 (.prod .str (.int .i64)) y0)), (4, .c (.pbox 4 0))], [], [(4, ⟨129, [.int .i64 y1, .int .i64 y2, .int .i64 y3, .int .i64 y4, .int .i64 y5, .dat 148 (.int .u64) y6, .dat 2 (.int .i64) y7], false⟩)], [], []⟩) (fun y0 => K .ret ⟨[(6, .c (.bool y0))], [], [], [], []⟩)
abbrev spec_l3Form.q7.s : ST := ⟨[(0, .c (.o (.dat 100 (.prod .str (.int .i64))))), (4, .c (.o (.pbox 4 0))), (63, .c (.o .bool))], [], [⟨4, 129, [.o (.int .i64), .o (.int .i64), .o (.int .i64), .o (.int .i64), .o (.int .i64), .o (.dat 148 (.int .u64)), .o (.dat 2 (.int .i64))], false⟩], [], []⟩
def spec_l3Form.q7.u (n : Nat) (v : spec_l3Form.q7.s.V) (K : X → St → Prop) : Prop := spec_l3Form.q7 n v.1.1 v.1.2.2.1 v.2.2.1.1 v.2.2.1.2.1 v.2.2.1.2.2.1 v.2.2.1.2.2.2.1 v.2.2.1.2.2.2.2.1 v.2.2.1.2.2.2.2.2.1 v.2.2.1.2.2.2.2.2.2.1 (fun y0 => K .ret ⟨[(6, .c (.bool y0))], [], [], [], []⟩) (fun y0 y1 y2 y3 y4 y5 y6 y7 => K .normal ⟨[(0, .c (.dat 100 (.prod .str (.int .i64)) y0)), (4, .c (.pbox 4 0))], [], [(4, ⟨129, [.int .i64 y1, .int .i64 y2, .int .i64 y3, .int .i64 y4, .int .i64 y5, .dat 148 (.int .u64) y6, .dat 2 (.int .i64) y7], false⟩)], [], []⟩)
abbrev spec_l3Form.q8.s : ST := ⟨[(0, .c (.o (.dat 100 (.prod .str (.int .i64))))), (4, .c (.o (.pbox 4 0)))], [], [⟨4, 129, [.o (.int .i64), .o (.int .i64), .o (.int .i64), .o (.int .i64), .o (.int .i64), .o (.dat 148 (.int .u64)), .o (.dat 2 (.int .i64))], false⟩], [], []⟩
def spec_l3Form.q8.u (n : Nat) (v : spec_l3Form.q8.s.V) (K : X → St → Prop) : Prop := spec_l3Form.q8 n v.1.1 v.2.2.1.1 v.2.2.1.2.1 v.2.2.1.2.2.1 v.2.2.1.2.2.2.1 v.2.2.1.2.2.2.2.1 v.2.2.1.2.2.2.2.2.1 v.2.2.1.2.2.2.2.2.2.1 (fun y0 => K .ret ⟨[(6, .c (.bool y0))], [], [], [], []⟩)
theorem spec_l3Form.l2_ok : ∀ n v K, spec_l3Form.l2.u n v K → loopM C X0 n 125 2 (spec_l3Form.l2.s.fill v) K :=
 loop_tell hX (fn := Try.f125) (c := bodyOf Try.f125) (a := loopOf Try.f125 2) (li := liOf (C.fi 125).loops 2) (by kernel_rfl) (by kernel_rfl) (of_decide_eq_true rfl) (by kernel_rfl) (by kernel_rfl) (T := spec_l3Form.l2.s) (u := spec_l3Form.l2.u) (fun _ _ h => h) (call := D24) (lp := fun n => noL) (D24_ok hX) (fun n => noL_ok) (fun n v K => by kernel_rfl)
theorem spec_l3Form.q7_ok : ∀ n v K, spec_l3Form.q7.u n v K → loopM C X0 n 125 1000007 (spec_l3Form.q7.s.fill v) K :=
 cut_tell hX (fn := Try.f125) (c := bodyOf Try.f125) (a := cutOf Try.f125 7) (li := liOf (C.fi 125).loops 1000007) (by kernel_rfl) (by kernel_rfl) (of_decide_eq_true rfl) (by kernel_rfl) (by kernel_rfl) (T := spec_l3Form.q7.s) (u := spec_l3Form.q7.u) (fun _ _ h => h) (call := D24) (lp := fun n => noL) (D24_ok hX) (fun n => noL_ok) (fun n v K => by kernel_rfl)
theorem spec_l3Form.q8_ok : ∀ n v K, spec_l3Form.q8.u n v K → loopM C X0 n 125 1000008 (spec_l3Form.q8.s.fill v) K :=
 cut_tell hX (fn := Try.f125) (c := bodyOf Try.f125) (a := cutOf Try.f125 8) (li := liOf (C.fi 125).loops 1000008) (by kernel_rfl) (by kernel_rfl) (of_decide_eq_true rfl) (by kernel_rfl) (by kernel_rfl) (T := spec_l3Form.q8.s) (u := spec_l3Form.q8.u) (fun _ _ h => h) (call := D24) (lp := fun n => noL) (D24_ok hX) (fun n => noL_ok) (fun n v K => by kernel_rfl)
theorem spec_l3Form_ok : ∀ n v K, spec_l3Form.u n v K → callM C X0 n 125 (fillA spec_l3Form.a v) K :=
 call_tell hX (fn := Try.f125) (c := bodyOf Try.f125) (by kernel_rfl) (by kernel_rfl) (A := spec_l3Form.a) (u := spec_l3Form.u) (fun _ _ h => h) (call := D24) (lp := fun n => orL 2 spec_l3Form.l2.s (spec_l3Form.l2.u n) (orL 1000007 spec_l3Form.q7.s (spec_l3Form.q7.u n) (orL 1000008 spec_l3Form.q8.s (spec_l3Form.q8.u n) noL))) (D24_ok hX) (fun n => (orL_ok (spec_l3Form.l2_ok hX n) (orL_ok (spec_l3Form.q7_ok hX n) (orL_ok (spec_l3Form.q8_ok hX n) noL_ok)))) (fun n v K => by kernel_rfl)
def D25 (n : Nat) : CallF := orC 125 spec_l3Form.a (spec_l3Form.u n) (D24 n)
theorem D25_ok : ∀ n g a K, D25 n g a K → callM C X0 n g a K := fun n => orC_ok (spec_l3Form_ok hX n) (D24_ok hX n)
abbrev spec_l3Wide.a : List TS := [.c (.o (.dat 100 (.prod .str (.int .i64)))), .a [.o (.int .i64), .o (.int .i64), .o (.int .i64), .o (.int .i64), .o (.int .i64), .o (.dat 148 (.int .u64)), .o (.dat 2 (.int .i64))], .c (.o (.dat 2 (.int .i64)))]
def spec_l3Wide.u (n : Nat) (v : VA spec_l3Wide.a) (K : RES → Prop) : Prop := spec_l3Wide.c n v.1 v.2.1.1 v.2.1.2.1 v.2.1.2.2.1 v.2.1.2.2.2.1 v.2.1.2.2.2.2.1 v.2.1.2.2.2.2.2.1 v.2.1.2.2.2.2.2.2.1 v.2.2.1 (fun r0 => K ⟨.c (.int .i64 r0), []⟩)
abbrev spec_l3Wide.l3.s : ST := ⟨[(0, .c (.o (.dat 100 (.prod .str (.int .i64))))), (2, .c (.o (.dat 2 (.int .i64)))), (4, .c (.o (.pbox 4 0))), (7, .c (.o (.int .i64))), (8, .c (.o (.int .i64)))], [], [⟨4, 129, [.o (.int .i64), .o (.int .i64), .o (.int .i64), .o (.int .i64), .o (.int .i64), .o (.dat 148 (.int .u64)), .o (.dat 2 (.int .i64))], false⟩], [], []⟩
def spec_l3Wide.l3.u (n : Nat) (v : spec_l3Wide.l3.s.V) (K : X → St → Prop) : Prop := spec_l3Wide.l3 n v.1.1 v.1.2.1 v.2.2.1.1 v.2.2.1.2.1 v.2.2.1.2.2.1 v.2.2.1.2.2.2.1 v.2.2.1.2.2.2.2.1 v.2.2.1.2.2.2.2.2.1 v.2.2.1.2.2.2.2.2.2.1 v.1.2.2.2.1 v.1.2.2.2.2.1 (fun y0 y1 y2 y3 y4 y5 y6 y7 y8 => K (.exit 0) ⟨[(0, .c (.dat 100 (.prod .str (.int .i64)) y0)), (4, .c (.pbox 4 0)), (7, .c (.int .i64 y1))], [], [(4, ⟨129, [.int .i64 y2, .int .i64 y3, .int .i64 y4, .int .i64 y5, .int .i64 y6, .dat 148 (.int .u64) y7, .dat 2 (.int .i64) y8], false⟩)], [], []⟩)
theorem spec_l3Wide.l3_ok : ∀ n v K, spec_l3Wide.l3.u n v K → loopM C X0 n 126 3 (spec_l3Wide.l3.s.fill v) K :=
 loop_tell hX (fn := Try.f126) (c := bodyOf Try.f126) (a := loopOf Try.f126 3) (li := liOf (C.fi 126).loops 3) (by kernel_rfl) (by kernel_rfl) (of_decide_eq_true rfl) (by kernel_rfl) (by kernel_rfl) (T := spec_l3Wide.l3.s) (u := spec_l3Wide.l3.u) (fun _ _ h => h) (call := D25) (lp := fun n => noL) (D25_ok hX) (fun n => noL_ok) (fun n v K => by kernel_rfl)
theorem spec_l3Wide_ok : ∀ n v K, spec_l3Wide.u n v K → callM C X0 n 126 (fillA spec_l3Wide.a v) K :=
 call_tell hX (fn := Try.f126) (c := bodyOf Try.f126) (by kernel_rfl) (by kernel_rfl) (A := spec_l3Wide.a) (u := spec_l3Wide.u) (fun _ _ h => h) (call := D25) (lp := fun n => orL 3 spec_l3Wide.l3.s (spec_l3Wide.l3.u n) noL) (D25_ok hX) (fun n => (orL_ok (spec_l3Wide.l3_ok hX n) noL_ok)) (fun n v K => by kernel_rfl)
def D26 (n : Nat) : CallF := orC 126 spec_l3Wide.a (spec_l3Wide.u n) (D25 n)
theorem D26_ok : ∀ n g a K, D26 n g a K → callM C X0 n g a K := fun n => orC_ok (spec_l3Wide_ok hX n) (D25_ok hX n)
abbrev spec_l3Widths.a : List TS := [.c (.o (.dat 100 (.prod .str (.int .i64)))), .a [.o (.dat 129 (.prod (.int .i64) (.prod (.int .i64) (.prod (.int .i64) (.prod (.int .i64) (.prod (.int .i64) (.prod (.sl 148 (.int .u64)) (.sl 2 (.int .i64)))))))))]]
def spec_l3Widths.u (n : Nat) (v : VA spec_l3Widths.a) (K : RES → Prop) : Prop := spec_l3Widths.c n v.1 v.2.1.1 (fun r0 => K ⟨.c (.row ⟨2, .int .i64, r0, 99, none⟩), []⟩)
abbrev spec_l3Widths.l16.s : ST := ⟨[(0, .c (.o (.dat 100 (.prod .str (.int .i64))))), (3, .c (.o (.pbox 3 0))), (5, .c (.o (.own 384))), (6, .c (.o (.own 2112))), (7, .c (.o (.own 1056))), (8, .c (.o (.int .i64))), (10, .c (.o (.int .i64)))], [⟨384, 2, .int .i64, 99⟩, ⟨1056, 4, .bool, 99⟩, ⟨2112, 2, .int .i64, 99⟩], [⟨3, 33, [.o (.dat 129 (.prod (.int .i64) (.prod (.int .i64) (.prod (.int .i64) (.prod (.int .i64) (.prod (.int .i64) (.prod (.sl 148 (.int .u64)) (.sl 2 (.int .i64)))))))))], false⟩], [], []⟩
def spec_l3Widths.l16.u (n : Nat) (v : spec_l3Widths.l16.s.V) (K : X → St → Prop) : Prop := spec_l3Widths.l16 n v.1.1 v.1.2.2.2.2.2.1 v.2.1.1 v.2.1.2.2.1 v.2.2.1.1 v.1.2.2.2.2.2.2.1 v.2.1.2.1 (fun y0 y1 y2 y3 y4 y5 => K (.exit 2) ⟨[(0, .c (.dat 100 (.prod .str (.int .i64)) y0)), (3, .c (.pbox 3 0)), (5, .c (.own 384)), (6, .c (.own 2112)), (7, .c (.own 1056)), (8, .c (.int .i64 y1))], [(384, ⟨2, .int .i64, y2, 99, none⟩), (1056, ⟨4, .bool, y3, 99, none⟩), (2112, ⟨2, .int .i64, y4, 99, none⟩)], [(3, ⟨33, [.dat 129 (.prod (.int .i64) (.prod (.int .i64) (.prod (.int .i64) (.prod (.int .i64) (.prod (.int .i64) (.prod (.sl 148 (.int .u64)) (.sl 2 (.int .i64)))))))) y5], false⟩)], [], []⟩)
abbrev spec_l3Widths.l7.s : ST := ⟨[(0, .c (.o (.dat 100 (.prod .str (.int .i64))))), (3, .c (.o (.pbox 3 0))), (5, .c (.o (.own 384))), (6, .c (.o (.own 192))), (7, .c (.o (.own 1056))), (8, .c (.o (.int .i64)))], [⟨192, 2, .int .i64, 99⟩, ⟨384, 2, .int .i64, 99⟩, ⟨1056, 4, .bool, 99⟩], [⟨3, 33, [.o (.dat 129 (.prod (.int .i64) (.prod (.int .i64) (.prod (.int .i64) (.prod (.int .i64) (.prod (.int .i64) (.prod (.sl 148 (.int .u64)) (.sl 2 (.int .i64)))))))))], false⟩], [], []⟩
def spec_l3Widths.l7.u (n : Nat) (v : spec_l3Widths.l7.s.V) (K : X → St → Prop) : Prop := spec_l3Widths.l7 n v.1.1 v.1.2.2.2.2.2.1 v.2.1.1 v.2.1.2.1 v.2.1.2.2.1 v.2.2.1.1 (fun y0 y1 y2 => K (.exit 0) ⟨[(5, .c (.own 384)), (6, .c (.own 192)), (7, .c (.own 1056))], [(192, ⟨2, .int .i64, y0, 99, none⟩), (384, ⟨2, .int .i64, y1, 99, none⟩), (1056, ⟨4, .bool, y2, 99, none⟩)], [], [], []⟩) (fun y0 => K .ret ⟨[(4, .c (.own 384))], [(384, ⟨2, .int .i64, y0, 99, none⟩)], [], [], []⟩)
abbrev spec_l3Widths.l20.s : ST := ⟨[(5, .c (.o (.own 384))), (6, .c (.o (.own 192))), (7, .c (.o (.own 1056))), (11, .c (.o (.int .i64)))], [⟨192, 2, .int .i64, 99⟩, ⟨384, 2, .int .i64, 99⟩, ⟨1056, 4, .bool, 99⟩], [], [], []⟩
def spec_l3Widths.l20.u (n : Nat) (v : spec_l3Widths.l20.s.V) (K : X → St → Prop) : Prop := spec_l3Widths.l20 n v.2.1.1 v.2.1.2.1 v.2.1.2.2.1 v.1.2.2.2.1 (fun y0 => K (.exit 4) ⟨[(6, .c (.own 192))], [(192, ⟨2, .int .i64, y0, 99, none⟩)], [], [], []⟩) (fun y0 => K .ret ⟨[(4, .c (.own 384))], [(384, ⟨2, .int .i64, y0, 99, none⟩)], [], [], []⟩)
theorem spec_l3Widths.l16_ok : ∀ n v K, spec_l3Widths.l16.u n v K → loopM C X0 n 72 16 (spec_l3Widths.l16.s.fill v) K :=
 loop_tell hX (fn := Try.f72) (c := bodyOf Try.f72) (a := loopOf Try.f72 16) (li := liOf (C.fi 72).loops 16) (by kernel_rfl) (by kernel_rfl) (of_decide_eq_true rfl) (by kernel_rfl) (by kernel_rfl) (T := spec_l3Widths.l16.s) (u := spec_l3Widths.l16.u) (fun _ _ h => h) (call := D26) (lp := fun n => noL) (D26_ok hX) (fun n => noL_ok) (fun n v K => by kernel_rfl)
theorem spec_l3Widths.l7_ok : ∀ n v K, spec_l3Widths.l7.u n v K → loopM C X0 n 72 7 (spec_l3Widths.l7.s.fill v) K :=
 loop_tell hX (fn := Try.f72) (c := bodyOf Try.f72) (a := loopOf Try.f72 7) (li := liOf (C.fi 72).loops 7) (by kernel_rfl) (by kernel_rfl) (of_decide_eq_true rfl) (by kernel_rfl) (by kernel_rfl) (T := spec_l3Widths.l7.s) (u := spec_l3Widths.l7.u) (fun _ _ h => h) (call := D26) (lp := fun n => orL 16 spec_l3Widths.l16.s (spec_l3Widths.l16.u n) noL) (D26_ok hX) (fun n => (orL_ok (spec_l3Widths.l16_ok hX n) noL_ok)) (fun n v K => by kernel_rfl)
theorem spec_l3Widths.l20_ok : ∀ n v K, spec_l3Widths.l20.u n v K → loopM C X0 n 72 20 (spec_l3Widths.l20.s.fill v) K :=
 loop_tell hX (fn := Try.f72) (c := bodyOf Try.f72) (a := loopOf Try.f72 20) (li := liOf (C.fi 72).loops 20) (by kernel_rfl) (by kernel_rfl) (of_decide_eq_true rfl) (by kernel_rfl) (by kernel_rfl) (T := spec_l3Widths.l20.s) (u := spec_l3Widths.l20.u) (fun _ _ h => h) (call := D26) (lp := fun n => noL) (D26_ok hX) (fun n => noL_ok) (fun n v K => by kernel_rfl)
theorem spec_l3Widths_ok : ∀ n v K, spec_l3Widths.u n v K → callM C X0 n 72 (fillA spec_l3Widths.a v) K :=
 call_tell hX (fn := Try.f72) (c := bodyOf Try.f72) (by kernel_rfl) (by kernel_rfl) (A := spec_l3Widths.a) (u := spec_l3Widths.u) (fun _ _ h => h) (call := D26) (lp := fun n => orL 7 spec_l3Widths.l7.s (spec_l3Widths.l7.u n) (orL 20 spec_l3Widths.l20.s (spec_l3Widths.l20.u n) noL)) (D26_ok hX) (fun n => (orL_ok (spec_l3Widths.l7_ok hX n) (orL_ok (spec_l3Widths.l20_ok hX n) noL_ok))) (fun n v K => by kernel_rfl)
def D27 (n : Nat) : CallF := orC 72 spec_l3Widths.a (spec_l3Widths.u n) (D26 n)
theorem D27_ok : ∀ n g a K, D27 n g a K → callM C X0 n g a K := fun n => orC_ok (spec_l3Widths_ok hX n) (D26_ok hX n)
abbrev spec_l1List.a : List TS := [.a [.o (.int .i64), .o (.dat 148 (.int .u64))]]
def spec_l1List.u (n : Nat) (v : VA spec_l1List.a) (K : RES → Prop) : Prop := spec_l1List.c n v.1.1 v.1.2.1 (fun r0 => K ⟨.c (.row ⟨5, .int .u8, r0, 99, none⟩), []⟩)
abbrev spec_l1List.l3.s : ST := ⟨[(1, .c (.o (.pbox 1 0))), (3, .c (.o (.own 96))), (4, .c (.o (.int .i64)))], [⟨96, 5, .int .u8, 99⟩], [⟨1, 49, [.o (.int .i64), .o (.dat 148 (.int .u64))], false⟩], [], []⟩
def spec_l1List.l3.u (n : Nat) (v : spec_l1List.l3.s.V) (K : X → St → Prop) : Prop := spec_l1List.l3 n v.2.2.1.1 v.2.2.1.2.1 v.1.2.2.1 v.2.1.1 (fun y0 => K (.exit 0) ⟨[(3, .c (.own 96))], [(96, ⟨5, .int .u8, y0, 99, none⟩)], [], [], []⟩)
theorem spec_l1List.l3_ok : ∀ n v K, spec_l1List.l3.u n v K → loopM C X0 n 203 3 (spec_l1List.l3.s.fill v) K :=
 loop_tell hX (fn := Try.f203) (c := bodyOf Try.f203) (a := loopOf Try.f203 3) (li := liOf (C.fi 203).loops 3) (by kernel_rfl) (by kernel_rfl) (of_decide_eq_true rfl) (by kernel_rfl) (by kernel_rfl) (T := spec_l1List.l3.s) (u := spec_l1List.l3.u) (fun _ _ h => h) (call := D27) (lp := fun n => noL) (D27_ok hX) (fun n => noL_ok) (fun n v K => by kernel_rfl)
theorem spec_l1List_ok : ∀ n v K, spec_l1List.u n v K → callM C X0 n 203 (fillA spec_l1List.a v) K :=
 call_tell hX (fn := Try.f203) (c := bodyOf Try.f203) (by kernel_rfl) (by kernel_rfl) (A := spec_l1List.a) (u := spec_l1List.u) (fun _ _ h => h) (call := D27) (lp := fun n => orL 3 spec_l1List.l3.s (spec_l1List.l3.u n) noL) (D27_ok hX) (fun n => (orL_ok (spec_l1List.l3_ok hX n) noL_ok)) (fun n v K => by kernel_rfl)
def D28 (n : Nat) : CallF := orC 203 spec_l1List.a (spec_l1List.u n) (D27 n)
theorem D28_ok : ∀ n g a K, D28 n g a K → callM C X0 n g a K := fun n => orC_ok (spec_l1List_ok hX n) (D27_ok hX n)
abbrev spec_l1From.a : List TS := [.c (.o (.dat 5 (.int .u8)))]
def spec_l1From.u (n : Nat) (v : VA spec_l1From.a) (K : RES → Prop) : Prop := spec_l1From.c n v.1 (fun r0 r1 r2 => K ⟨.tup [.agg [.int .i64 r0, .row ⟨148, .int .u64, r1, 99, none⟩], .c (.bool r2)], []⟩)
abbrev spec_l1From.l5.s : ST := ⟨[(0, .c (.o (.dat 5 (.int .u8)))), (2, .c (.o (.pbox 2 0))), (4, .c (.o (.pbox 4 0))), (5, .c (.o (.int .i64)))], [⟨672, 148, .int .u64, 99⟩, ⟨1000065, 148, .int .u64, 99⟩], [⟨2, 49, [.o (.int .i64), .o (.own 1000065)], false⟩, ⟨4, 49, [.o (.int .i64), .o (.own 672)], false⟩], [], []⟩
def spec_l1From.l5.u (n : Nat) (v : spec_l1From.l5.s.V) (K : X → St → Prop) : Prop := spec_l1From.l5 n v.1.1 v.2.1.2.1 v.2.2.1.1 v.2.2.2.1.1 v.1.2.2.2.1 v.2.1.1 (fun y0 y1 y2 y3 => K (.exit 0) ⟨[(2, .c (.pbox 2 0)), (4, .c (.pbox 4 0))], [(672, ⟨148, .int .u64, y0, 99, none⟩), (1000065, ⟨148, .int .u64, y1, 99, none⟩)], [(2, ⟨49, [.int .i64 y2, .own 1000065], false⟩), (4, ⟨49, [.int .i64 y3, .own 672], false⟩)], [], []⟩)
theorem spec_l1From.l5_ok : ∀ n v K, spec_l1From.l5.u n v K → loopM C X0 n 151 5 (spec_l1From.l5.s.fill v) K :=
 loop_tell hX (fn := Try.f151) (c := bodyOf Try.f151) (a := loopOf Try.f151 5) (li := liOf (C.fi 151).loops 5) (by kernel_rfl) (by kernel_rfl) (of_decide_eq_true rfl) (by kernel_rfl) (by kernel_rfl) (T := spec_l1From.l5.s) (u := spec_l1From.l5.u) (fun _ _ h => h) (call := D28) (lp := fun n => noL) (D28_ok hX) (fun n => noL_ok) (fun n v K => by kernel_rfl)
theorem spec_l1From_ok : ∀ n v K, spec_l1From.u n v K → callM C X0 n 151 (fillA spec_l1From.a v) K :=
 call_tell hX (fn := Try.f151) (c := bodyOf Try.f151) (by kernel_rfl) (by kernel_rfl) (A := spec_l1From.a) (u := spec_l1From.u) (fun _ _ h => h) (call := D28) (lp := fun n => orL 5 spec_l1From.l5.s (spec_l1From.l5.u n) noL) (D28_ok hX) (fun n => (orL_ok (spec_l1From.l5_ok hX n) noL_ok)) (fun n v K => by kernel_rfl)
def D29 (n : Nat) : CallF := orC 151 spec_l1From.a (spec_l1From.u n) (D28 n)
theorem D29_ok : ∀ n g a K, D29 n g a K → callM C X0 n g a K := fun n => orC_ok (spec_l1From_ok hX n) (D28_ok hX n)
abbrev spec_JoinBits.a : List TS := [.a [.o (.int .i64), .o (.dat 148 (.int .u64))], .a [.o (.int .i64), .o (.dat 148 (.int .u64))]]
def spec_JoinBits.u (n : Nat) (v : VA spec_JoinBits.a) (K : RES → Prop) : Prop := spec_JoinBits.c n v.1.1 v.1.2.1 v.2.1.1 v.2.1.2.1 (fun r0 r1 r2 => K ⟨.tup [.agg [.int .i64 r0, .row ⟨148, .int .u64, r1, 99, none⟩], .c (.bool r2)], []⟩)
theorem spec_JoinBits_ok : ∀ n v K, spec_JoinBits.u n v K → callM C X0 n 179 (fillA spec_JoinBits.a v) K :=
 call_tell hX (fn := Try.f179) (c := bodyOf Try.f179) (by kernel_rfl) (by kernel_rfl) (A := spec_JoinBits.a) (u := spec_JoinBits.u) (fun _ _ h => h) (call := D29) (lp := fun n => noL) (D29_ok hX) (fun n => noL_ok) (fun n v K => by kernel_rfl)
def D30 (n : Nat) : CallF := orC 179 spec_JoinBits.a (spec_JoinBits.u n) (D29 n)
theorem D30_ok : ∀ n g a K, D30 n g a K → callM C X0 n g a K := fun n => orC_ok (spec_JoinBits_ok hX n) (D29_ok hX n)
abbrev spec_PartOf.a : List TS := [.a [.o (.int .i64), .o (.dat 148 (.int .u64))], .c (.o (.int .i64)), .c (.o (.int .i64))]
def spec_PartOf.u (n : Nat) (v : VA spec_PartOf.a) (K : RES → Prop) : Prop := spec_PartOf.c n v.1.1 v.1.2.1 v.2.1 v.2.2.1 (fun r0 r1 r2 => K ⟨.tup [.agg [.int .i64 r0, .row ⟨148, .int .u64, r1, 99, none⟩], .c (.bool r2)], []⟩)
theorem spec_PartOf_ok : ∀ n v K, spec_PartOf.u n v K → callM C X0 n 180 (fillA spec_PartOf.a v) K :=
 call_tell hX (fn := Try.f180) (c := bodyOf Try.f180) (by kernel_rfl) (by kernel_rfl) (A := spec_PartOf.a) (u := spec_PartOf.u) (fun _ _ h => h) (call := D30) (lp := fun n => noL) (D30_ok hX) (fun n => noL_ok) (fun n v K => by kernel_rfl)
def D31 (n : Nat) : CallF := orC 180 spec_PartOf.a (spec_PartOf.u n) (D30 n)
theorem D31_ok : ∀ n g a K, D31 n g a K → callM C X0 n g a K := fun n => orC_ok (spec_PartOf_ok hX n) (D30_ok hX n)
abbrev spec_WidenBits.a : List TS := [.a [.o (.int .i64), .o (.dat 148 (.int .u64))], .c (.o (.int .i64)), .c (.o .bool)]
def spec_WidenBits.u (n : Nat) (v : VA spec_WidenBits.a) (K : RES → Prop) : Prop := spec_WidenBits.c n v.1.1 v.1.2.1 v.2.1 v.2.2.1 (fun r0 r1 r2 => K ⟨.tup [.agg [.int .i64 r0, .row ⟨148, .int .u64, r1, 99, none⟩], .c (.bool r2)], []⟩)
abbrev spec_WidenBits.l8.s : ST := ⟨[(1, .c (.o (.int .i64))), (6, .c (.o (.pbox 6 0))), (8, .c (.o (.own 256))), (9, .c (.o (.int .u8))), (10, .c (.o (.int .i64)))], [⟨256, 5, .int .u8, 99⟩, ⟨1000193, 148, .int .u64, 99⟩], [⟨6, 49, [.o (.int .i64), .o (.own 1000193)], false⟩], [], []⟩
def spec_WidenBits.l8.u (n : Nat) (v : spec_WidenBits.l8.s.V) (K : X → St → Prop) : Prop := spec_WidenBits.l8 n v.1.1 v.1.2.2.2.1 v.2.1.2.1 v.2.2.1.1 v.1.2.2.2.2.1 v.2.1.1 (fun y0 y1 y2 => K (.exit 0) ⟨[(6, .c (.pbox 6 0)), (8, .c (.own 256))], [(256, ⟨5, .int .u8, y0, 99, none⟩), (1000193, ⟨148, .int .u64, y1, 99, none⟩)], [(6, ⟨49, [.int .i64 y2, .own 1000193], false⟩)], [], []⟩)
theorem spec_WidenBits.l8_ok : ∀ n v K, spec_WidenBits.l8.u n v K → loopM C X0 n 181 8 (spec_WidenBits.l8.s.fill v) K :=
 loop_tell hX (fn := Try.f181) (c := bodyOf Try.f181) (a := loopOf Try.f181 8) (li := liOf (C.fi 181).loops 8) (by kernel_rfl) (by kernel_rfl) (of_decide_eq_true rfl) (by kernel_rfl) (by kernel_rfl) (T := spec_WidenBits.l8.s) (u := spec_WidenBits.l8.u) (fun _ _ h => h) (call := D31) (lp := fun n => noL) (D31_ok hX) (fun n => noL_ok) (fun n v K => by kernel_rfl)
theorem spec_WidenBits_ok : ∀ n v K, spec_WidenBits.u n v K → callM C X0 n 181 (fillA spec_WidenBits.a v) K :=
 call_tell hX (fn := Try.f181) (c := bodyOf Try.f181) (by kernel_rfl) (by kernel_rfl) (A := spec_WidenBits.a) (u := spec_WidenBits.u) (fun _ _ h => h) (call := D31) (lp := fun n => orL 8 spec_WidenBits.l8.s (spec_WidenBits.l8.u n) noL) (D31_ok hX) (fun n => (orL_ok (spec_WidenBits.l8_ok hX n) noL_ok)) (fun n v K => by kernel_rfl)
def D32 (n : Nat) : CallF := orC 181 spec_WidenBits.a (spec_WidenBits.u n) (D31 n)
theorem D32_ok : ∀ n g a K, D32 n g a K → callM C X0 n g a K := fun n => orC_ok (spec_WidenBits_ok hX n) (D31_ok hX n)
abbrev spec_TurnBits.a : List TS := [.a [.o (.int .i64), .o (.dat 148 (.int .u64))], .c (.o (.int .i64))]
def spec_TurnBits.u (n : Nat) (v : VA spec_TurnBits.a) (K : RES → Prop) : Prop := spec_TurnBits.c n v.1.1 v.1.2.1 v.2.1 (fun r0 r1 r2 => K ⟨.tup [.agg [.int .i64 r0, .row ⟨148, .int .u64, r1, 99, none⟩], .c (.bool r2)], []⟩)
abbrev spec_TurnBits.l6.s : ST := ⟨[(1, .c (.o (.int .i64))), (4, .c (.o (.pbox 4 0))), (6, .c (.o (.own 608))), (7, .c (.o (.own 704))), (8, .c (.o (.int .i64)))], [⟨608, 5, .int .u8, 99⟩, ⟨704, 5, .int .u8, 99⟩, ⟨1000129, 148, .int .u64, 99⟩], [⟨4, 49, [.o (.int .i64), .o (.own 1000129)], false⟩], [], []⟩
def spec_TurnBits.l6.u (n : Nat) (v : spec_TurnBits.l6.s.V) (K : X → St → Prop) : Prop := spec_TurnBits.l6 n v.1.1 v.2.1.1 v.2.1.2.2.1 v.2.2.1.1 v.1.2.2.2.2.1 v.2.1.2.1 (fun y0 y1 y2 => K (.exit 0) ⟨[(4, .c (.pbox 4 0)), (7, .c (.own 704))], [(704, ⟨5, .int .u8, y0, 99, none⟩), (1000129, ⟨148, .int .u64, y1, 99, none⟩)], [(4, ⟨49, [.int .i64 y2, .own 1000129], false⟩)], [], []⟩)
theorem spec_TurnBits.l6_ok : ∀ n v K, spec_TurnBits.l6.u n v K → loopM C X0 n 182 6 (spec_TurnBits.l6.s.fill v) K :=
 loop_tell hX (fn := Try.f182) (c := bodyOf Try.f182) (a := loopOf Try.f182 6) (li := liOf (C.fi 182).loops 6) (by kernel_rfl) (by kernel_rfl) (of_decide_eq_true rfl) (by kernel_rfl) (by kernel_rfl) (T := spec_TurnBits.l6.s) (u := spec_TurnBits.l6.u) (fun _ _ h => h) (call := D32) (lp := fun n => noL) (D32_ok hX) (fun n => noL_ok) (fun n v K => by kernel_rfl)
theorem spec_TurnBits_ok : ∀ n v K, spec_TurnBits.u n v K → callM C X0 n 182 (fillA spec_TurnBits.a v) K :=
 call_tell hX (fn := Try.f182) (c := bodyOf Try.f182) (by kernel_rfl) (by kernel_rfl) (A := spec_TurnBits.a) (u := spec_TurnBits.u) (fun _ _ h => h) (call := D32) (lp := fun n => orL 6 spec_TurnBits.l6.s (spec_TurnBits.l6.u n) noL) (D32_ok hX) (fun n => (orL_ok (spec_TurnBits.l6_ok hX n) noL_ok)) (fun n v K => by kernel_rfl)
def D33 (n : Nat) : CallF := orC 182 spec_TurnBits.a (spec_TurnBits.u n) (D32 n)
theorem D33_ok : ∀ n g a K, D33 n g a K → callM C X0 n g a K := fun n => orC_ok (spec_TurnBits_ok hX n) (D32_ok hX n)
abbrev spec_RepeatBits.a : List TS := [.a [.o (.int .i64), .o (.dat 148 (.int .u64))], .c (.o (.int .i64))]
def spec_RepeatBits.u (n : Nat) (v : VA spec_RepeatBits.a) (K : RES → Prop) : Prop := spec_RepeatBits.c n v.1.1 v.1.2.1 v.2.1 (fun r0 r1 r2 => K ⟨.tup [.agg [.int .i64 r0, .row ⟨148, .int .u64, r1, 99, none⟩], .c (.bool r2)], []⟩)
abbrev spec_RepeatBits.l6.s : ST := ⟨[(1, .c (.o (.int .i64))), (4, .c (.o (.pbox 4 0))), (6, .c (.o (.own 832))), (7, .c (.o (.own 224))), (8, .c (.o (.int .i64)))], [⟨224, 5, .int .u8, 99⟩, ⟨832, 5, .int .u8, 99⟩, ⟨1000129, 148, .int .u64, 99⟩], [⟨4, 49, [.o (.int .i64), .o (.own 1000129)], false⟩], [], []⟩
def spec_RepeatBits.l6.u (n : Nat) (v : spec_RepeatBits.l6.s.V) (K : X → St → Prop) : Prop := spec_RepeatBits.l6 n v.1.1 v.2.1.2.1 v.2.1.2.2.1 v.2.2.1.1 v.1.2.2.2.2.1 v.2.1.1 (fun y0 y1 y2 => K (.exit 0) ⟨[(4, .c (.pbox 4 0)), (7, .c (.own 224))], [(224, ⟨5, .int .u8, y0, 99, none⟩), (1000129, ⟨148, .int .u64, y1, 99, none⟩)], [(4, ⟨49, [.int .i64 y2, .own 1000129], false⟩)], [], []⟩)
theorem spec_RepeatBits.l6_ok : ∀ n v K, spec_RepeatBits.l6.u n v K → loopM C X0 n 183 6 (spec_RepeatBits.l6.s.fill v) K :=
 loop_tell hX (fn := Try.f183) (c := bodyOf Try.f183) (a := loopOf Try.f183 6) (li := liOf (C.fi 183).loops 6) (by kernel_rfl) (by kernel_rfl) (of_decide_eq_true rfl) (by kernel_rfl) (by kernel_rfl) (T := spec_RepeatBits.l6.s) (u := spec_RepeatBits.l6.u) (fun _ _ h => h) (call := D33) (lp := fun n => noL) (D33_ok hX) (fun n => noL_ok) (fun n v K => by kernel_rfl)
theorem spec_RepeatBits_ok : ∀ n v K, spec_RepeatBits.u n v K → callM C X0 n 183 (fillA spec_RepeatBits.a v) K :=
 call_tell hX (fn := Try.f183) (c := bodyOf Try.f183) (by kernel_rfl) (by kernel_rfl) (A := spec_RepeatBits.a) (u := spec_RepeatBits.u) (fun _ _ h => h) (call := D33) (lp := fun n => orL 6 spec_RepeatBits.l6.s (spec_RepeatBits.l6.u n) noL) (D33_ok hX) (fun n => (orL_ok (spec_RepeatBits.l6_ok hX n) noL_ok)) (fun n v K => by kernel_rfl)
def D34 (n : Nat) : CallF := orC 183 spec_RepeatBits.a (spec_RepeatBits.u n) (D33 n)
theorem D34_ok : ∀ n g a K, D34 n g a K → callM C X0 n g a K := fun n => orC_ok (spec_RepeatBits_ok hX n) (D33_ok hX n)
abbrev spec_l4Node.a : List TS := [.c (.o (.dat 49 (.prod (.int .i64) (.sl 148 (.int .u64))))), .a [.o (.int .i64), .o (.int .i64), .o (.int .i64), .o (.int .i64), .o (.int .i64), .o (.dat 148 (.int .u64)), .o (.dat 2 (.int .i64))], .c (.o (.dat 49 (.prod (.int .i64) (.sl 148 (.int .u64)))))]
def spec_l4Node.u (n : Nat) (v : VA spec_l4Node.a) (K : RES → Prop) : Prop := spec_l4Node.c n v.1 v.2.1.1 v.2.1.2.1 v.2.1.2.2.1 v.2.1.2.2.2.1 v.2.1.2.2.2.2.1 v.2.1.2.2.2.2.2.1 v.2.1.2.2.2.2.2.2.1 v.2.2.1 (fun r0 r1 => K ⟨.agg [.int .i64 r0, .dat 148 (.int .u64) r1], []⟩)
abbrev spec_l4Node.l10.s : ST := ⟨[(2, .c (.o (.dat 49 (.prod (.int .i64) (.sl 148 (.int .u64)))))), (6, .c (.o (.pbox 6 0))), (7, .c (.o (.pbox 7 0))), (8, .c (.o (.int .i64)))], [⟨1000193, 148, .int .u64, 99⟩], [⟨6, 49, [.o (.int .i64), .o (.own 1000193)], false⟩, ⟨7, 49, [.o (.int .i64), .o (.dat 148 (.int .u64))], false⟩], [], []⟩
def spec_l4Node.l10.u (n : Nat) (v : spec_l4Node.l10.s.V) (K : X → St → Prop) : Prop := spec_l4Node.l10 n v.1.1 v.2.1.1 v.2.2.1.1 v.1.2.2.2.1 v.2.2.2.1.1 v.2.2.2.1.2.1 (fun y0 y1 y2 y3 => K (.exit 1) ⟨[(6, .c (.pbox 6 0)), (7, .c (.pbox 7 0))], [(1000193, ⟨148, .int .u64, y0, 99, none⟩)], [(6, ⟨49, [.int .i64 y1, .own 1000193], false⟩), (7, ⟨49, [.int .i64 y2, .dat 148 (.int .u64) y3], false⟩)], [], []⟩)
theorem spec_l4Node.l10_ok : ∀ n v K, spec_l4Node.l10.u n v K → loopM C X0 n 144 10 (spec_l4Node.l10.s.fill v) K :=
 loop_tell hX (fn := Try.f144) (c := bodyOf Try.f144) (a := loopOf Try.f144 10) (li := liOf (C.fi 144).loops 10) (by kernel_rfl) (by kernel_rfl) (of_decide_eq_true rfl) (by kernel_rfl) (by kernel_rfl) (T := spec_l4Node.l10.s) (u := spec_l4Node.l10.u) (fun _ _ h => h) (call := D34) (lp := fun n => noL) (D34_ok hX) (fun n => noL_ok) (fun n v K => by kernel_rfl)
theorem spec_l4Node_ok : ∀ n v K, spec_l4Node.u n v K → callM C X0 n 144 (fillA spec_l4Node.a v) K :=
 call_tell hX (fn := Try.f144) (c := bodyOf Try.f144) (by kernel_rfl) (by kernel_rfl) (A := spec_l4Node.a) (u := spec_l4Node.u) (fun _ _ h => h) (call := D34) (lp := fun n => orL 10 spec_l4Node.l10.s (spec_l4Node.l10.u n) noL) (D34_ok hX) (fun n => (orL_ok (spec_l4Node.l10_ok hX n) noL_ok)) (fun n v K => by kernel_rfl)
def D35 (n : Nat) : CallF := orC 144 spec_l4Node.a (spec_l4Node.u n) (D34 n)
theorem D35_ok : ∀ n g a K, D35 n g a K → callM C X0 n g a K := fun n => orC_ok (spec_l4Node_ok hX n) (D34_ok hX n)
abbrev impl_nameOk.a : List TS := [.c (.o .str)]
def impl_nameOk.u (n : Nat) (v : VA impl_nameOk.a) (K : RES → Prop) : Prop := impl_nameOk.c n v.1 (fun r0 => K ⟨.c (.bool r0), []⟩)
abbrev impl_nameOk.l4.s : ST := ⟨[(0, .c (.o .str)), (3, .c (.o (.int .i64)))], [], [], [], []⟩
def impl_nameOk.l4.u (n : Nat) (v : impl_nameOk.l4.s.V) (K : X → St → Prop) : Prop := impl_nameOk.l4 n v.1.1 v.1.2.1 (K (.exit 0) ⟨[], [], [], [], []⟩) (fun y0 => K .ret ⟨[(2, .c (.bool y0))], [], [], [], []⟩)
theorem impl_nameOk.l4_ok : ∀ n v K, impl_nameOk.l4.u n v K → loopM C X0 n 132 4 (impl_nameOk.l4.s.fill v) K :=
 loop_tell hX (fn := Try.f132) (c := bodyOf Try.f132) (a := loopOf Try.f132 4) (li := liOf (C.fi 132).loops 4) (by kernel_rfl) (by kernel_rfl) (of_decide_eq_true rfl) (by kernel_rfl) (by kernel_rfl) (T := impl_nameOk.l4.s) (u := impl_nameOk.l4.u) (fun _ _ h => h) (call := D35) (lp := fun n => noL) (D35_ok hX) (fun n => noL_ok) (fun n v K => by kernel_rfl)
theorem impl_nameOk_ok : ∀ n v K, impl_nameOk.u n v K → callM C X0 n 132 (fillA impl_nameOk.a v) K :=
 call_tell hX (fn := Try.f132) (c := bodyOf Try.f132) (by kernel_rfl) (by kernel_rfl) (A := impl_nameOk.a) (u := impl_nameOk.u) (fun _ _ h => h) (call := D35) (lp := fun n => orL 4 impl_nameOk.l4.s (impl_nameOk.l4.u n) noL) (D35_ok hX) (fun n => (orL_ok (impl_nameOk.l4_ok hX n) noL_ok)) (fun n v K => by kernel_rfl)
def D36 (n : Nat) : CallF := orC 132 impl_nameOk.a (impl_nameOk.u n) (D35 n)
theorem D36_ok : ∀ n g a K, D36 n g a K → callM C X0 n g a K := fun n => orC_ok (impl_nameOk_ok hX n) (D35_ok hX n)
abbrev impl_inside.a : List TS := [.c (.o (.int .i64)), .c (.o (.int .i64)), .c (.o (.int .i64))]
def impl_inside.u (n : Nat) (v : VA impl_inside.a) (K : RES → Prop) : Prop := impl_inside.c n v.1 v.2.1 v.2.2.1 (fun r0 => K ⟨.c (.bool r0), []⟩)
theorem impl_inside_ok : ∀ n v K, impl_inside.u n v K → callM C X0 n 77 (fillA impl_inside.a v) K :=
 call_tell hX (fn := Try.f77) (c := bodyOf Try.f77) (by kernel_rfl) (by kernel_rfl) (A := impl_inside.a) (u := impl_inside.u) (fun _ _ h => h) (call := D36) (lp := fun n => noL) (D36_ok hX) (fun n => noL_ok) (fun n v K => by kernel_rfl)
def D37 (n : Nat) : CallF := orC 77 impl_inside.a (impl_inside.u n) (D36 n)
theorem D37_ok : ∀ n g a K, D37 n g a K → callM C X0 n g a K := fun n => orC_ok (impl_inside_ok hX n) (D36_ok hX n)
abbrev impl_declared_1.a : List TS := [.a [.o .str, .o (.int .i64)], .c (.o (.pdat 9 .str 0))]
def impl_declared_1.u (n : Nat) (v : VA impl_declared_1.a) (K : RES → Prop) : Prop := impl_declared_1.c n v.1.1 v.1.2.1 v.2.1 (fun r0 => K ⟨.c (.bool r0), []⟩)
theorem impl_declared_1_ok : ∀ n v K, impl_declared_1.u n v K → callM C X0 n 174 (fillA impl_declared_1.a v) K :=
 call_tell hX (fn := Try.f174) (c := bodyOf Try.f174) (by kernel_rfl) (by kernel_rfl) (A := impl_declared_1.a) (u := impl_declared_1.u) (fun _ _ h => h) (call := D37) (lp := fun n => noL) (D37_ok hX) (fun n => noL_ok) (fun n v K => by kernel_rfl)
def D38 (n : Nat) : CallF := orC 174 impl_declared_1.a (impl_declared_1.u n) (D37 n)
theorem D38_ok : ∀ n g a K, D38 n g a K → callM C X0 n g a K := fun n => orC_ok (impl_declared_1_ok hX n) (D37_ok hX n)
end
end Go.Vsi
end

section
set_option linter.unusedVariables false
namespace Go.Vsi
open Go.Proofs
section
variable {X0 : CallF} (hX : CallF.Mono X0)
include hX
abbrev slices_IndexFunc_Decl__impl_declared_1.a : List TS := [.c (.o (.dat 100 (.prod .str (.int .i64)))), .c (.fn 174 [(false, 1)] 0 [.pdat 9 .str 0])]
def slices_IndexFunc_Decl__impl_declared_1.u (n : Nat) (v : VA slices_IndexFunc_Decl__impl_declared_1.a) (K : RES → Prop) : Prop := slices_IndexFunc_Decl__impl_declared_1.c n v.1 v.2.1.1 (fun r0 => K ⟨.c (.int .i64 r0), []⟩)
abbrev slices_IndexFunc_Decl__impl_declared_1.l2.s : ST := ⟨[(0, .c (.o (.dat 100 (.prod .str (.int .i64))))), (1, .c (.fn 174 [(false, 1)] 0 [.pdat 9 .str 0])), (7, .c (.o (.int .i64))), (8, .c (.o (.int .i64)))], [], [], [], []⟩
def slices_IndexFunc_Decl__impl_declared_1.l2.u (n : Nat) (v : slices_IndexFunc_Decl__impl_declared_1.l2.s.V) (K : X → St → Prop) : Prop := slices_IndexFunc_Decl__impl_declared_1.l2 n v.1.1 v.1.2.1.1 v.1.2.2.1 v.1.2.2.2.1 (K (.exit 0) ⟨[], [], [], [], []⟩) (fun y0 => K .ret ⟨[(4, .c (.int .i64 y0))], [], [], [], []⟩)
theorem slices_IndexFunc_Decl__impl_declared_1.l2_ok : ∀ n v K, slices_IndexFunc_Decl__impl_declared_1.l2.u n v K → loopM C X0 n 173 2 (slices_IndexFunc_Decl__impl_declared_1.l2.s.fill v) K :=
 loop_tell hX (fn := Try.f173) (c := bodyOf Try.f173) (a := loopOf Try.f173 2) (li := liOf (C.fi 173).loops 2) (by kernel_rfl) (by kernel_rfl) (of_decide_eq_true rfl) (by kernel_rfl) (by kernel_rfl) (T := slices_IndexFunc_Decl__impl_declared_1.l2.s) (u := slices_IndexFunc_Decl__impl_declared_1.l2.u) (fun _ _ h => h) (call := D38) (lp := fun n => noL) (D38_ok hX) (fun n => noL_ok) (fun n v K => by kernel_rfl)
theorem slices_IndexFunc_Decl__impl_declared_1_ok : ∀ n v K, slices_IndexFunc_Decl__impl_declared_1.u n v K → callM C X0 n 173 (fillA slices_IndexFunc_Decl__impl_declared_1.a v) K :=
 call_tell hX (fn := Try.f173) (c := bodyOf Try.f173) (by kernel_rfl) (by kernel_rfl) (A := slices_IndexFunc_Decl__impl_declared_1.a) (u := slices_IndexFunc_Decl__impl_declared_1.u) (fun _ _ h => h) (call := D38) (lp := fun n => orL 2 slices_IndexFunc_Decl__impl_declared_1.l2.s (slices_IndexFunc_Decl__impl_declared_1.l2.u n) noL) (D38_ok hX) (fun n => (orL_ok (slices_IndexFunc_Decl__impl_declared_1.l2_ok hX n) noL_ok)) (fun n v K => by kernel_rfl)
def D39 (n : Nat) : CallF := orC 173 slices_IndexFunc_Decl__impl_declared_1.a (slices_IndexFunc_Decl__impl_declared_1.u n) (D38 n)
theorem D39_ok : ∀ n g a K, D39 n g a K → callM C X0 n g a K := fun n => orC_ok (slices_IndexFunc_Decl__impl_declared_1_ok hX n) (D38_ok hX n)
abbrev impl_declared.a : List TS := [.c (.o (.dat 100 (.prod .str (.int .i64)))), .c (.o .str)]
def impl_declared.u (n : Nat) (v : VA impl_declared.a) (K : RES → Prop) : Prop := impl_declared.c n v.1 v.2.1 (fun r0 => K ⟨.c (.int .i64 r0), []⟩)
theorem impl_declared_ok : ∀ n v K, impl_declared.u n v K → callM C X0 n 133 (fillA impl_declared.a v) K :=
 call_tell hX (fn := Try.f133) (c := bodyOf Try.f133) (by kernel_rfl) (by kernel_rfl) (A := impl_declared.a) (u := impl_declared.u) (fun _ _ h => h) (call := D39) (lp := fun n => noL) (D39_ok hX) (fun n => noL_ok) (fun n v K => by kernel_rfl)
def D40 (n : Nat) : CallF := orC 133 impl_declared.a (impl_declared.u n) (D39 n)
theorem D40_ok : ∀ n g a K, D40 n g a K → callM C X0 n g a K := fun n => orC_ok (impl_declared_ok hX n) (D39_ok hX n)
abbrev impl_DeclsOk.a : List TS := [.c (.o (.dat 100 (.prod .str (.int .i64))))]
def impl_DeclsOk.u (n : Nat) (v : VA impl_DeclsOk.a) (K : RES → Prop) : Prop := impl_DeclsOk.c n v.1 (fun r0 => K ⟨.c (.bool r0), []⟩)
abbrev impl_DeclsOk.l5.s : ST := ⟨[(0, .c (.o (.dat 100 (.prod .str (.int .i64))))), (3, .c (.o (.int .i64))), (9, .c (.o (.dat 100 (.prod .str (.int .i64))))), (10, .c (.o (.int .i64))), (11, .c (.o (.int .i64)))], [], [], [], []⟩
def impl_DeclsOk.l5.u (n : Nat) (v : impl_DeclsOk.l5.s.V) (K : X → St → Prop) : Prop := impl_DeclsOk.l5 n v.1.1 v.1.2.2.1 v.1.2.2.2.1 v.1.2.1 v.1.2.2.2.2.1 (fun y0 => K (.exit 0) ⟨[(3, .c (.int .i64 y0))], [], [], [], []⟩) (fun y0 => K .ret ⟨[(2, .c (.bool y0))], [], [], [], []⟩)
theorem impl_DeclsOk.l5_ok : ∀ n v K, impl_DeclsOk.l5.u n v K → loopM C X0 n 75 5 (impl_DeclsOk.l5.s.fill v) K :=
 loop_tell hX (fn := Try.f75) (c := bodyOf Try.f75) (a := loopOf Try.f75 5) (li := liOf (C.fi 75).loops 5) (by kernel_rfl) (by kernel_rfl) (of_decide_eq_true rfl) (by kernel_rfl) (by kernel_rfl) (T := impl_DeclsOk.l5.s) (u := impl_DeclsOk.l5.u) (fun _ _ h => h) (call := D40) (lp := fun n => noL) (D40_ok hX) (fun n => noL_ok) (fun n v K => by kernel_rfl)
theorem impl_DeclsOk_ok : ∀ n v K, impl_DeclsOk.u n v K → callM C X0 n 75 (fillA impl_DeclsOk.a v) K :=
 call_tell hX (fn := Try.f75) (c := bodyOf Try.f75) (by kernel_rfl) (by kernel_rfl) (A := impl_DeclsOk.a) (u := impl_DeclsOk.u) (fun _ _ h => h) (call := D40) (lp := fun n => orL 5 impl_DeclsOk.l5.s (impl_DeclsOk.l5.u n) noL) (D40_ok hX) (fun n => (orL_ok (impl_DeclsOk.l5_ok hX n) noL_ok)) (fun n v K => by kernel_rfl)
def D41 (n : Nat) : CallF := orC 75 impl_DeclsOk.a (impl_DeclsOk.u n) (D40 n)
theorem D41_ok : ∀ n g a K, D41 n g a K → callM C X0 n g a K := fun n => orC_ok (impl_DeclsOk_ok hX n) (D40_ok hX n)
abbrev impl_wordsFor.a : List TS := [.c (.o (.int .i64))]
def impl_wordsFor.u (n : Nat) (v : VA impl_wordsFor.a) (K : RES → Prop) : Prop := impl_wordsFor.c n v.1 (fun r0 => K ⟨.c (.int .i64 r0), []⟩)
theorem impl_wordsFor_ok : ∀ n v K, impl_wordsFor.u n v K → callM C X0 n 165 (fillA impl_wordsFor.a v) K :=
 call_tell hX (fn := Try.f165) (c := bodyOf Try.f165) (by kernel_rfl) (by kernel_rfl) (A := impl_wordsFor.a) (u := impl_wordsFor.u) (fun _ _ h => h) (call := D41) (lp := fun n => noL) (D41_ok hX) (fun n => noL_ok) (fun n v K => by kernel_rfl)
def D42 (n : Nat) : CallF := orC 165 impl_wordsFor.a (impl_wordsFor.u n) (D41 n)
theorem D42_ok : ∀ n g a K, D42 n g a K → callM C X0 n g a K := fun n => orC_ok (impl_wordsFor_ok hX n) (D41_ok hX n)
abbrev impl_BitsOk.a : List TS := [.a [.o (.int .i64), .o (.dat 148 (.int .u64))]]
def impl_BitsOk.u (n : Nat) (v : VA impl_BitsOk.a) (K : RES → Prop) : Prop := impl_BitsOk.c n v.1.1 v.1.2.1 (fun r0 => K ⟨.c (.bool r0), []⟩)
theorem impl_BitsOk_ok : ∀ n v K, impl_BitsOk.u n v K → callM C X0 n 175 (fillA impl_BitsOk.a v) K :=
 call_tell hX (fn := Try.f175) (c := bodyOf Try.f175) (by kernel_rfl) (by kernel_rfl) (A := impl_BitsOk.a) (u := impl_BitsOk.u) (fun _ _ h => h) (call := D42) (lp := fun n => noL) (D42_ok hX) (fun n => noL_ok) (fun n v K => by kernel_rfl)
def D43 (n : Nat) : CallF := orC 175 impl_BitsOk.a (impl_BitsOk.u n) (D42 n)
theorem D43_ok : ∀ n g a K, D43 n g a K → callM C X0 n g a K := fun n => orC_ok (impl_BitsOk_ok hX n) (D42_ok hX n)
abbrev impl_TNode_width.a : List TS := [.c (.o (.pdat 129 (.prod (.int .i64) (.prod (.int .i64) (.prod (.int .i64) (.prod (.int .i64) (.prod (.int .i64) (.prod (.sl 148 (.int .u64)) (.sl 2 (.int .i64)))))))) 0)), .c (.o (.dat 100 (.prod .str (.int .i64)))), .c (.o (.dat 2 (.int .i64)))]
def impl_TNode_width.u (n : Nat) (v : VA impl_TNode_width.a) (K : RES → Prop) : Prop := impl_TNode_width.c n v.1 v.2.1 v.2.2.1 (fun r0 => K ⟨.c (.int .i64 r0), []⟩)
abbrev impl_TNode_width.l11.s : ST := ⟨[(8, .c (.o (.int .i64))), (80, .c (.o (.dat 2 (.int .i64)))), (81, .c (.o (.int .i64))), (82, .c (.o (.int .i64)))], [], [], [], []⟩
def impl_TNode_width.l11.u (n : Nat) (v : impl_TNode_width.l11.s.V) (K : X → St → Prop) : Prop := impl_TNode_width.l11 n v.1.2.1 v.1.2.2.1 v.1.1 v.1.2.2.2.1 (fun y0 => K (.exit 1) ⟨[(8, .c (.int .i64 y0))], [], [], [], []⟩)
abbrev impl_TNode_width.q21.s : ST := ⟨[(0, .c (.o (.pdat 129 (.prod (.int .i64) (.prod (.int .i64) (.prod (.int .i64) (.prod (.int .i64) (.prod (.int .i64) (.prod (.sl 148 (.int .u64)) (.sl 2 (.int .i64)))))))) 0))), (7, .c (.o (.int .i64))), (137, .c (.o .bool))], [], [], [], []⟩
def impl_TNode_width.q21.u (n : Nat) (v : impl_TNode_width.q21.s.V) (K : X → St → Prop) : Prop := impl_TNode_width.q21 n v.1.1 v.1.2.1 v.1.2.2.1 (fun y0 => K .ret ⟨[(6, .c (.int .i64 y0))], [], [], [], []⟩) (K .normal ⟨[], [], [], [], []⟩)
abbrev impl_TNode_width.q9.s : ST := ⟨[(0, .c (.o (.pdat 129 (.prod (.int .i64) (.prod (.int .i64) (.prod (.int .i64) (.prod (.int .i64) (.prod (.int .i64) (.prod (.sl 148 (.int .u64)) (.sl 2 (.int .i64)))))))) 0))), (2, .c (.o (.dat 2 (.int .i64)))), (7, .c (.o (.int .i64))), (69, .c (.o .bool))], [], [], [], []⟩
def impl_TNode_width.q9.u (n : Nat) (v : impl_TNode_width.q9.s.V) (K : X → St → Prop) : Prop := impl_TNode_width.q9 n v.1.1 v.1.2.1 v.1.2.2.1 v.1.2.2.2.1 (fun y0 => K .ret ⟨[(6, .c (.int .i64 y0))], [], [], [], []⟩) (K .normal ⟨[], [], [], [], []⟩)
abbrev impl_TNode_width.q5.s : ST := ⟨[(0, .c (.o (.pdat 129 (.prod (.int .i64) (.prod (.int .i64) (.prod (.int .i64) (.prod (.int .i64) (.prod (.int .i64) (.prod (.sl 148 (.int .u64)) (.sl 2 (.int .i64)))))))) 0))), (1, .c (.o (.dat 100 (.prod .str (.int .i64))))), (2, .c (.o (.dat 2 (.int .i64)))), (7, .c (.o (.int .i64))), (17, .c (.o .bool))], [], [], [], []⟩
def impl_TNode_width.q5.u (n : Nat) (v : impl_TNode_width.q5.s.V) (K : X → St → Prop) : Prop := impl_TNode_width.q5 n v.1.1 v.1.2.1 v.1.2.2.1 v.1.2.2.2.1 v.1.2.2.2.2.1 (fun y0 => K .ret ⟨[(6, .c (.int .i64 y0))], [], [], [], []⟩) (K .normal ⟨[], [], [], [], []⟩)
theorem impl_TNode_width.l11_ok : ∀ n v K, impl_TNode_width.l11.u n v K → loopM C X0 n 134 11 (impl_TNode_width.l11.s.fill v) K :=
 loop_tell hX (fn := Try.f134) (c := bodyOf Try.f134) (a := loopOf Try.f134 11) (li := liOf (C.fi 134).loops 11) (by kernel_rfl) (by kernel_rfl) (of_decide_eq_true rfl) (by kernel_rfl) (by kernel_rfl) (T := impl_TNode_width.l11.s) (u := impl_TNode_width.l11.u) (fun _ _ h => h) (call := D43) (lp := fun n => noL) (D43_ok hX) (fun n => noL_ok) (fun n v K => by kernel_rfl)
theorem impl_TNode_width.q21_ok : ∀ n v K, impl_TNode_width.q21.u n v K → loopM C X0 n 134 1000021 (impl_TNode_width.q21.s.fill v) K :=
 cut_tell hX (fn := Try.f134) (c := bodyOf Try.f134) (a := cutOf Try.f134 21) (li := liOf (C.fi 134).loops 1000021) (by kernel_rfl) (by kernel_rfl) (of_decide_eq_true rfl) (by kernel_rfl) (by kernel_rfl) (T := impl_TNode_width.q21.s) (u := impl_TNode_width.q21.u) (fun _ _ h => h) (call := D43) (lp := fun n => noL) (D43_ok hX) (fun n => noL_ok) (fun n v K => by kernel_rfl)
theorem impl_TNode_width.q9_ok : ∀ n v K, impl_TNode_width.q9.u n v K → loopM C X0 n 134 1000009 (impl_TNode_width.q9.s.fill v) K :=
 cut_tell hX (fn := Try.f134) (c := bodyOf Try.f134) (a := cutOf Try.f134 9) (li := liOf (C.fi 134).loops 1000009) (by kernel_rfl) (by kernel_rfl) (of_decide_eq_true rfl) (by kernel_rfl) (by kernel_rfl) (T := impl_TNode_width.q9.s) (u := impl_TNode_width.q9.u) (fun _ _ h => h) (call := D43) (lp := fun n => orL 11 impl_TNode_width.l11.s (impl_TNode_width.l11.u n) (orL 1000021 impl_TNode_width.q21.s (impl_TNode_width.q21.u n) noL)) (D43_ok hX) (fun n => (orL_ok (impl_TNode_width.l11_ok hX n) (orL_ok (impl_TNode_width.q21_ok hX n) noL_ok))) (fun n v K => by kernel_rfl)
theorem impl_TNode_width.q5_ok : ∀ n v K, impl_TNode_width.q5.u n v K → loopM C X0 n 134 1000005 (impl_TNode_width.q5.s.fill v) K :=
 cut_tell hX (fn := Try.f134) (c := bodyOf Try.f134) (a := cutOf Try.f134 5) (li := liOf (C.fi 134).loops 1000005) (by kernel_rfl) (by kernel_rfl) (of_decide_eq_true rfl) (by kernel_rfl) (by kernel_rfl) (T := impl_TNode_width.q5.s) (u := impl_TNode_width.q5.u) (fun _ _ h => h) (call := D43) (lp := fun n => orL 1000009 impl_TNode_width.q9.s (impl_TNode_width.q9.u n) noL) (D43_ok hX) (fun n => (orL_ok (impl_TNode_width.q9_ok hX n) noL_ok)) (fun n v K => by kernel_rfl)
theorem impl_TNode_width_ok : ∀ n v K, impl_TNode_width.u n v K → callM C X0 n 134 (fillA impl_TNode_width.a v) K :=
 call_tell hX (fn := Try.f134) (c := bodyOf Try.f134) (by kernel_rfl) (by kernel_rfl) (A := impl_TNode_width.a) (u := impl_TNode_width.u) (fun _ _ h => h) (call := D43) (lp := fun n => orL 1000005 impl_TNode_width.q5.s (impl_TNode_width.q5.u n) noL) (D43_ok hX) (fun n => (orL_ok (impl_TNode_width.q5_ok hX n) noL_ok)) (fun n v K => by kernel_rfl)
def D44 (n : Nat) : CallF := orC 134 impl_TNode_width.a (impl_TNode_width.u n) (D43 n)
theorem D44_ok : ∀ n g a K, D44 n g a K → callM C X0 n g a K := fun n => orC_ok (impl_TNode_width_ok hX n) (D43_ok hX n)
abbrev impl_TNode_plain.a : List TS := [.c (.o (.pdat 129 (.prod (.int .i64) (.prod (.int .i64) (.prod (.int .i64) (.prod (.int .i64) (.prod (.int .i64) (.prod (.sl 148 (.int .u64)) (.sl 2 (.int .i64)))))))) 0))]
def impl_TNode_plain.u (n : Nat) (v : VA impl_TNode_plain.a) (K : RES → Prop) : Prop := impl_TNode_plain.c n v.1 (fun r0 => K ⟨.c (.bool r0), []⟩)
abbrev impl_TNode_plain.q3.s : ST := ⟨[(0, .c (.o (.pdat 129 (.prod (.int .i64) (.prod (.int .i64) (.prod (.int .i64) (.prod (.int .i64) (.prod (.int .i64) (.prod (.sl 148 (.int .u64)) (.sl 2 (.int .i64)))))))) 0))), (52, .c (.o .bool))], [], [], [], []⟩
def impl_TNode_plain.q3.u (n : Nat) (v : impl_TNode_plain.q3.s.V) (K : X → St → Prop) : Prop := impl_TNode_plain.q3 n v.1.1 v.1.2.1 (fun y0 => K .ret ⟨[(2, .c (.bool y0))], [], [], [], []⟩) (fun y0 => K .normal ⟨[(0, .c (.pdat 129 (.prod (.int .i64) (.prod (.int .i64) (.prod (.int .i64) (.prod (.int .i64) (.prod (.int .i64) (.prod (.sl 148 (.int .u64)) (.sl 2 (.int .i64)))))))) y0 0))], [], [], [], []⟩)
abbrev impl_TNode_plain.q2.s : ST := ⟨[(0, .c (.o (.pdat 129 (.prod (.int .i64) (.prod (.int .i64) (.prod (.int .i64) (.prod (.int .i64) (.prod (.int .i64) (.prod (.sl 148 (.int .u64)) (.sl 2 (.int .i64)))))))) 0))), (3, .c (.o .bool))], [], [], [], []⟩
def impl_TNode_plain.q2.u (n : Nat) (v : impl_TNode_plain.q2.s.V) (K : X → St → Prop) : Prop := impl_TNode_plain.q2 n v.1.1 v.1.2.1 (fun y0 => K .ret ⟨[(2, .c (.bool y0))], [], [], [], []⟩)
theorem impl_TNode_plain.q3_ok : ∀ n v K, impl_TNode_plain.q3.u n v K → loopM C X0 n 135 1000003 (impl_TNode_plain.q3.s.fill v) K :=
 cut_tell hX (fn := Try.f135) (c := bodyOf Try.f135) (a := cutOf Try.f135 3) (li := liOf (C.fi 135).loops 1000003) (by kernel_rfl) (by kernel_rfl) (of_decide_eq_true rfl) (by kernel_rfl) (by kernel_rfl) (T := impl_TNode_plain.q3.s) (u := impl_TNode_plain.q3.u) (fun _ _ h => h) (call := D44) (lp := fun n => noL) (D44_ok hX) (fun n => noL_ok) (fun n v K => by kernel_rfl)
theorem impl_TNode_plain.q2_ok : ∀ n v K, impl_TNode_plain.q2.u n v K → loopM C X0 n 135 1000002 (impl_TNode_plain.q2.s.fill v) K :=
 cut_tell hX (fn := Try.f135) (c := bodyOf Try.f135) (a := cutOf Try.f135 2) (li := liOf (C.fi 135).loops 1000002) (by kernel_rfl) (by kernel_rfl) (of_decide_eq_true rfl) (by kernel_rfl) (by kernel_rfl) (T := impl_TNode_plain.q2.s) (u := impl_TNode_plain.q2.u) (fun _ _ h => h) (call := D44) (lp := fun n => orL 1000003 impl_TNode_plain.q3.s (impl_TNode_plain.q3.u n) noL) (D44_ok hX) (fun n => (orL_ok (impl_TNode_plain.q3_ok hX n) noL_ok)) (fun n v K => by kernel_rfl)
theorem impl_TNode_plain_ok : ∀ n v K, impl_TNode_plain.u n v K → callM C X0 n 135 (fillA impl_TNode_plain.a v) K :=
 call_tell hX (fn := Try.f135) (c := bodyOf Try.f135) (by kernel_rfl) (by kernel_rfl) (A := impl_TNode_plain.a) (u := impl_TNode_plain.u) (fun _ _ h => h) (call := D44) (lp := fun n => orL 1000002 impl_TNode_plain.q2.s (impl_TNode_plain.q2.u n) noL) (D44_ok hX) (fun n => (orL_ok (impl_TNode_plain.q2_ok hX n) noL_ok)) (fun n v K => by kernel_rfl)
def D45 (n : Nat) : CallF := orC 135 impl_TNode_plain.a (impl_TNode_plain.u n) (D44 n)
theorem D45_ok : ∀ n g a K, D45 n g a K → callM C X0 n g a K := fun n => orC_ok (impl_TNode_plain_ok hX n) (D44_ok hX n)
abbrev slices_Index_bool.a : List TS := [.c (.o (.dat 4 .bool)), .c (.o .bool)]
def slices_Index_bool.u (n : Nat) (v : VA slices_Index_bool.a) (K : RES → Prop) : Prop := slices_Index_bool.c n v.1 v.2.1 (fun r0 => K ⟨.c (.int .i64 r0), []⟩)
abbrev slices_Index_bool.l2.s : ST := ⟨[(0, .c (.o (.dat 4 .bool))), (1, .c (.o .bool)), (7, .c (.o (.int .i64))), (8, .c (.o (.int .i64)))], [], [], [], []⟩
def slices_Index_bool.l2.u (n : Nat) (v : slices_Index_bool.l2.s.V) (K : X → St → Prop) : Prop := slices_Index_bool.l2 n v.1.1 v.1.2.1 v.1.2.2.1 v.1.2.2.2.1 (K (.exit 0) ⟨[], [], [], [], []⟩) (fun y0 => K .ret ⟨[(4, .c (.int .i64 y0))], [], [], [], []⟩)
theorem slices_Index_bool.l2_ok : ∀ n v K, slices_Index_bool.l2.u n v K → loopM C X0 n 176 2 (slices_Index_bool.l2.s.fill v) K :=
 loop_tell hX (fn := Try.f176) (c := bodyOf Try.f176) (a := loopOf Try.f176 2) (li := liOf (C.fi 176).loops 2) (by kernel_rfl) (by kernel_rfl) (of_decide_eq_true rfl) (by kernel_rfl) (by kernel_rfl) (T := slices_Index_bool.l2.s) (u := slices_Index_bool.l2.u) (fun _ _ h => h) (call := D45) (lp := fun n => noL) (D45_ok hX) (fun n => noL_ok) (fun n v K => by kernel_rfl)
theorem slices_Index_bool_ok : ∀ n v K, slices_Index_bool.u n v K → callM C X0 n 176 (fillA slices_Index_bool.a v) K :=
 call_tell hX (fn := Try.f176) (c := bodyOf Try.f176) (by kernel_rfl) (by kernel_rfl) (A := slices_Index_bool.a) (u := slices_Index_bool.u) (fun _ _ h => h) (call := D45) (lp := fun n => orL 2 slices_Index_bool.l2.s (slices_Index_bool.l2.u n) noL) (D45_ok hX) (fun n => (orL_ok (slices_Index_bool.l2_ok hX n) noL_ok)) (fun n v K => by kernel_rfl)
def D46 (n : Nat) : CallF := orC 176 slices_Index_bool.a (slices_Index_bool.u n) (D45 n)
theorem D46_ok : ∀ n g a K, D46 n g a K → callM C X0 n g a K := fun n => orC_ok (slices_Index_bool_ok hX n) (D45_ok hX n)
abbrev slices_Contains_bool.a : List TS := [.c (.o (.dat 4 .bool)), .c (.o .bool)]
def slices_Contains_bool.u (n : Nat) (v : VA slices_Contains_bool.a) (K : RES → Prop) : Prop := slices_Contains_bool.c n v.1 v.2.1 (fun r0 => K ⟨.c (.bool r0), []⟩)
theorem slices_Contains_bool_ok : ∀ n v K, slices_Contains_bool.u n v K → callM C X0 n 136 (fillA slices_Contains_bool.a v) K :=
 call_tell hX (fn := Try.f136) (c := bodyOf Try.f136) (by kernel_rfl) (by kernel_rfl) (A := slices_Contains_bool.a) (u := slices_Contains_bool.u) (fun _ _ h => h) (call := D46) (lp := fun n => noL) (D46_ok hX) (fun n => noL_ok) (fun n v K => by kernel_rfl)
def D47 (n : Nat) : CallF := orC 136 slices_Contains_bool.a (slices_Contains_bool.u n) (D46 n)
theorem D47_ok : ∀ n g a K, D47 n g a K → callM C X0 n g a K := fun n => orC_ok (slices_Contains_bool_ok hX n) (D46_ok hX n)
abbrev impl_widths.a : List TS := [.c (.o (.dat 100 (.prod .str (.int .i64)))), .a [.o (.dat 129 (.prod (.int .i64) (.prod (.int .i64) (.prod (.int .i64) (.prod (.int .i64) (.prod (.int .i64) (.prod (.sl 148 (.int .u64)) (.sl 2 (.int .i64)))))))))]]
def impl_widths.u (n : Nat) (v : VA impl_widths.a) (K : RES → Prop) : Prop := impl_widths.c n v.1 v.2.1.1 (fun r0 r1 => K ⟨.tup [.c (.row ⟨2, .int .i64, r0, 99, none⟩), .c (.bool r1)], []⟩)
abbrev impl_widths.l13.s : ST := ⟨[(0, .c (.o (.dat 100 (.prod .str (.int .i64))))), (3, .c (.o (.pbox 3 0))), (6, .c (.o (.int .i64))), (7, .c (.o (.own 768))), (8, .c (.o (.own 832))), (9, .c (.o (.int .i64))), (10, .c (.o (.pdat 129 (.prod (.int .i64) (.prod (.int .i64) (.prod (.int .i64) (.prod (.int .i64) (.prod (.int .i64) (.prod (.sl 148 (.int .u64)) (.sl 2 (.int .i64)))))))) 0))), (11, .c (.o (.own 1536))), (29, .c (.o (.int .i64))), (30, .c (.o (.int .i64))), (52, .c (.o (.dat 2 (.int .i64)))), (53, .c (.o (.int .i64))), (54, .c (.o (.int .i64)))], [⟨768, 2, .int .i64, 99⟩, ⟨832, 4, .bool, 99⟩, ⟨1536, 2, .int .i64, 99⟩], [⟨3, 33, [.o (.dat 129 (.prod (.int .i64) (.prod (.int .i64) (.prod (.int .i64) (.prod (.int .i64) (.prod (.int .i64) (.prod (.sl 148 (.int .u64)) (.sl 2 (.int .i64)))))))))], false⟩], [], []⟩
def impl_widths.l13.u (n : Nat) (v : impl_widths.l13.s.V) (K : X → St → Prop) : Prop := impl_widths.l13 n v.1.1 v.1.2.2.1 v.1.2.2.2.2.2.1 v.1.2.2.2.2.2.2.1 v.1.2.2.2.2.2.2.2.2.1 v.1.2.2.2.2.2.2.2.2.2.1 v.1.2.2.2.2.2.2.2.2.2.2.1 v.1.2.2.2.2.2.2.2.2.2.2.2.1 v.2.1.1 v.2.2.1.1 v.1.2.2.2.2.2.2.2.2.2.2.2.2.1 v.2.1.2.1 v.2.1.2.2.1 (fun y0 y1 y2 y3 y4 y5 y6 y7 y8 y9 => K (.exit 2) ⟨[(0, .c (.dat 100 (.prod .str (.int .i64)) y0)), (3, .c (.pbox 3 0)), (6, .c (.int .i64 y1)), (7, .c (.own 768)), (8, .c (.own 832)), (9, .c (.int .i64 y2)), (10, .c (.pdat 129 (.prod (.int .i64) (.prod (.int .i64) (.prod (.int .i64) (.prod (.int .i64) (.prod (.int .i64) (.prod (.sl 148 (.int .u64)) (.sl 2 (.int .i64)))))))) y3 0)), (11, .c (.own 1536)), (29, .c (.int .i64 y4)), (30, .c (.int .i64 y5))], [(768, ⟨2, .int .i64, y6, 99, none⟩), (832, ⟨4, .bool, y7, 99, none⟩), (1536, ⟨2, .int .i64, y8, 99, none⟩)], [(3, ⟨33, [.dat 129 (.prod (.int .i64) (.prod (.int .i64) (.prod (.int .i64) (.prod (.int .i64) (.prod (.int .i64) (.prod (.sl 148 (.int .u64)) (.sl 2 (.int .i64)))))))) y9], false⟩)], [], []⟩) (fun y0 y1 => K .ret ⟨[(4, .c (.own 128)), (5, .c (.bool y0))], [(128, ⟨2, .int .i64, y1, 99, none⟩)], [], [], []⟩)
abbrev impl_widths.l6.s : ST := ⟨[(0, .c (.o (.dat 100 (.prod .str (.int .i64))))), (3, .c (.o (.pbox 3 0))), (6, .c (.o (.int .i64))), (7, .c (.o (.own 768))), (8, .c (.o (.own 832))), (29, .c (.o (.int .i64))), (30, .c (.o (.int .i64)))], [⟨768, 2, .int .i64, 99⟩, ⟨832, 4, .bool, 99⟩], [⟨3, 33, [.o (.dat 129 (.prod (.int .i64) (.prod (.int .i64) (.prod (.int .i64) (.prod (.int .i64) (.prod (.int .i64) (.prod (.sl 148 (.int .u64)) (.sl 2 (.int .i64)))))))))], false⟩], [], []⟩
def impl_widths.l6.u (n : Nat) (v : impl_widths.l6.s.V) (K : X → St → Prop) : Prop := impl_widths.l6 n v.1.1 v.1.2.2.1 v.1.2.2.2.2.2.1 v.1.2.2.2.2.2.2.1 v.2.1.1 v.2.1.2.1 v.2.2.1.1 (fun y0 y1 y2 => K (.exit 0) ⟨[(6, .c (.int .i64 y0)), (7, .c (.own 768)), (8, .c (.own 832))], [(768, ⟨2, .int .i64, y1, 99, none⟩), (832, ⟨4, .bool, y2, 99, none⟩)], [], [], []⟩) (fun y0 y1 => K .ret ⟨[(4, .c (.own 128)), (5, .c (.bool y0))], [(128, ⟨2, .int .i64, y1, 99, none⟩)], [], [], []⟩)
theorem impl_widths.l13_ok : ∀ n v K, impl_widths.l13.u n v K → loopM C X0 n 76 13 (impl_widths.l13.s.fill v) K :=
 loop_tell hX (fn := Try.f76) (c := bodyOf Try.f76) (a := loopOf Try.f76 13) (li := liOf (C.fi 76).loops 13) (by kernel_rfl) (by kernel_rfl) (of_decide_eq_true rfl) (by kernel_rfl) (by kernel_rfl) (T := impl_widths.l13.s) (u := impl_widths.l13.u) (fun _ _ h => h) (call := D47) (lp := fun n => noL) (D47_ok hX) (fun n => noL_ok) (fun n v K => by kernel_rfl)
theorem impl_widths.l6_ok : ∀ n v K, impl_widths.l6.u n v K → loopM C X0 n 76 6 (impl_widths.l6.s.fill v) K :=
 loop_tell hX (fn := Try.f76) (c := bodyOf Try.f76) (a := loopOf Try.f76 6) (li := liOf (C.fi 76).loops 6) (by kernel_rfl) (by kernel_rfl) (of_decide_eq_true rfl) (by kernel_rfl) (by kernel_rfl) (T := impl_widths.l6.s) (u := impl_widths.l6.u) (fun _ _ h => h) (call := D47) (lp := fun n => orL 13 impl_widths.l13.s (impl_widths.l13.u n) noL) (D47_ok hX) (fun n => (orL_ok (impl_widths.l13_ok hX n) noL_ok)) (fun n v K => by kernel_rfl)
theorem impl_widths_ok : ∀ n v K, impl_widths.u n v K → callM C X0 n 76 (fillA impl_widths.a v) K :=
 call_tell hX (fn := Try.f76) (c := bodyOf Try.f76) (by kernel_rfl) (by kernel_rfl) (A := impl_widths.a) (u := impl_widths.u) (fun _ _ h => h) (call := D47) (lp := fun n => orL 6 impl_widths.l6.s (impl_widths.l6.u n) noL) (D47_ok hX) (fun n => (orL_ok (impl_widths.l6_ok hX n) noL_ok)) (fun n v K => by kernel_rfl)
def D48 (n : Nat) : CallF := orC 76 impl_widths.a (impl_widths.u n) (D47 n)
theorem D48_ok : ∀ n g a K, D48 n g a K → callM C X0 n g a K := fun n => orC_ok (impl_widths_ok hX n) (D47_ok hX n)
abbrev laws_eqUint64S.a : List TS := [.c (.o (.dat 148 (.int .u64))), .c (.o (.dat 148 (.int .u64)))]
def laws_eqUint64S.u (n : Nat) (v : VA laws_eqUint64S.a) (K : RES → Prop) : Prop := laws_eqUint64S.c n v.1 v.2.1 (fun r0 => K ⟨.c (.bool r0), []⟩)
abbrev laws_eqUint64S.l4.s : ST := ⟨[(0, .c (.o (.dat 148 (.int .u64)))), (1, .c (.o (.dat 148 (.int .u64)))), (5, .c (.o (.int .i64)))], [], [], [], []⟩
def laws_eqUint64S.l4.u (n : Nat) (v : laws_eqUint64S.l4.s.V) (K : X → St → Prop) : Prop := laws_eqUint64S.l4 n v.1.1 v.1.2.1 v.1.2.2.1 (K (.exit 0) ⟨[], [], [], [], []⟩) (fun y0 => K .ret ⟨[(4, .c (.bool y0))], [], [], [], []⟩)
theorem laws_eqUint64S.l4_ok : ∀ n v K, laws_eqUint64S.l4.u n v K → loopM C X0 n 89 4 (laws_eqUint64S.l4.s.fill v) K :=
 loop_tell hX (fn := Try.f89) (c := bodyOf Try.f89) (a := loopOf Try.f89 4) (li := liOf (C.fi 89).loops 4) (by kernel_rfl) (by kernel_rfl) (of_decide_eq_true rfl) (by kernel_rfl) (by kernel_rfl) (T := laws_eqUint64S.l4.s) (u := laws_eqUint64S.l4.u) (fun _ _ h => h) (call := D48) (lp := fun n => noL) (D48_ok hX) (fun n => noL_ok) (fun n v K => by kernel_rfl)
theorem laws_eqUint64S_ok : ∀ n v K, laws_eqUint64S.u n v K → callM C X0 n 89 (fillA laws_eqUint64S.a v) K :=
 call_tell hX (fn := Try.f89) (c := bodyOf Try.f89) (by kernel_rfl) (by kernel_rfl) (A := laws_eqUint64S.a) (u := laws_eqUint64S.u) (fun _ _ h => h) (call := D48) (lp := fun n => orL 4 laws_eqUint64S.l4.s (laws_eqUint64S.l4.u n) noL) (D48_ok hX) (fun n => (orL_ok (laws_eqUint64S.l4_ok hX n) noL_ok)) (fun n v K => by kernel_rfl)
def D49 (n : Nat) : CallF := orC 89 laws_eqUint64S.a (laws_eqUint64S.u n) (D48 n)
theorem D49_ok : ∀ n g a K, D49 n g a K → callM C X0 n g a K := fun n => orC_ok (laws_eqUint64S_ok hX n) (D48_ok hX n)
abbrev laws_eqBits.a : List TS := [.a [.o (.int .i64), .o (.dat 148 (.int .u64))], .a [.o (.int .i64), .o (.dat 148 (.int .u64))]]
def laws_eqBits.u (n : Nat) (v : VA laws_eqBits.a) (K : RES → Prop) : Prop := laws_eqBits.c n v.1.1 v.1.2.1 v.2.1.1 v.2.1.2.1 (fun r0 => K ⟨.c (.bool r0), []⟩)
theorem laws_eqBits_ok : ∀ n v K, laws_eqBits.u n v K → callM C X0 n 32 (fillA laws_eqBits.a v) K :=
 call_tell hX (fn := Try.f32) (c := bodyOf Try.f32) (by kernel_rfl) (by kernel_rfl) (A := laws_eqBits.a) (u := laws_eqBits.u) (fun _ _ h => h) (call := D49) (lp := fun n => noL) (D49_ok hX) (fun n => noL_ok) (fun n v K => by kernel_rfl)
def D50 (n : Nat) : CallF := orC 32 laws_eqBits.a (laws_eqBits.u n) (D49 n)
theorem D50_ok : ∀ n g a K, D50 n g a K → callM C X0 n g a K := fun n => orC_ok (laws_eqBits_ok hX n) (D49_ok hX n)
abbrev laws_eqDecl.a : List TS := [.a [.o .str, .o (.int .i64)], .a [.o .str, .o (.int .i64)]]
def laws_eqDecl.u (n : Nat) (v : VA laws_eqDecl.a) (K : RES → Prop) : Prop := laws_eqDecl.c n v.1.1 v.1.2.1 v.2.1.1 v.2.1.2.1 (fun r0 => K ⟨.c (.bool r0), []⟩)
theorem laws_eqDecl_ok : ∀ n v K, laws_eqDecl.u n v K → callM C X0 n 70 (fillA laws_eqDecl.a v) K :=
 call_tell hX (fn := Try.f70) (c := bodyOf Try.f70) (by kernel_rfl) (by kernel_rfl) (A := laws_eqDecl.a) (u := laws_eqDecl.u) (fun _ _ h => h) (call := D50) (lp := fun n => noL) (D50_ok hX) (fun n => noL_ok) (fun n v K => by kernel_rfl)
def D51 (n : Nat) : CallF := orC 70 laws_eqDecl.a (laws_eqDecl.u n) (D50 n)
theorem D51_ok : ∀ n g a K, D51 n g a K → callM C X0 n g a K := fun n => orC_ok (laws_eqDecl_ok hX n) (D50_ok hX n)
abbrev laws_eqDeclS.a : List TS := [.c (.o (.dat 100 (.prod .str (.int .i64)))), .c (.o (.dat 100 (.prod .str (.int .i64))))]
def laws_eqDeclS.u (n : Nat) (v : VA laws_eqDeclS.a) (K : RES → Prop) : Prop := laws_eqDeclS.c n v.1 v.2.1 (fun r0 => K ⟨.c (.bool r0), []⟩)
abbrev laws_eqDeclS.l4.s : ST := ⟨[(0, .c (.o (.dat 100 (.prod .str (.int .i64))))), (1, .c (.o (.dat 100 (.prod .str (.int .i64))))), (5, .c (.o (.int .i64)))], [], [], [], []⟩
def laws_eqDeclS.l4.u (n : Nat) (v : laws_eqDeclS.l4.s.V) (K : X → St → Prop) : Prop := laws_eqDeclS.l4 n v.1.1 v.1.2.1 v.1.2.2.1 (K (.exit 0) ⟨[], [], [], [], []⟩) (fun y0 => K .ret ⟨[(4, .c (.bool y0))], [], [], [], []⟩)
theorem laws_eqDeclS.l4_ok : ∀ n v K, laws_eqDeclS.l4.u n v K → loopM C X0 n 19 4 (laws_eqDeclS.l4.s.fill v) K :=
 loop_tell hX (fn := Try.f19) (c := bodyOf Try.f19) (a := loopOf Try.f19 4) (li := liOf (C.fi 19).loops 4) (by kernel_rfl) (by kernel_rfl) (of_decide_eq_true rfl) (by kernel_rfl) (by kernel_rfl) (T := laws_eqDeclS.l4.s) (u := laws_eqDeclS.l4.u) (fun _ _ h => h) (call := D51) (lp := fun n => noL) (D51_ok hX) (fun n => noL_ok) (fun n v K => by kernel_rfl)
theorem laws_eqDeclS_ok : ∀ n v K, laws_eqDeclS.u n v K → callM C X0 n 19 (fillA laws_eqDeclS.a v) K :=
 call_tell hX (fn := Try.f19) (c := bodyOf Try.f19) (by kernel_rfl) (by kernel_rfl) (A := laws_eqDeclS.a) (u := laws_eqDeclS.u) (fun _ _ h => h) (call := D51) (lp := fun n => orL 4 laws_eqDeclS.l4.s (laws_eqDeclS.l4.u n) noL) (D51_ok hX) (fun n => (orL_ok (laws_eqDeclS.l4_ok hX n) noL_ok)) (fun n v K => by kernel_rfl)
def D52 (n : Nat) : CallF := orC 19 laws_eqDeclS.a (laws_eqDeclS.u n) (D51 n)
theorem D52_ok : ∀ n g a K, D52 n g a K → callM C X0 n g a K := fun n => orC_ok (laws_eqDeclS_ok hX n) (D51_ok hX n)
abbrev laws_eqInt64S.a : List TS := [.c (.o (.dat 2 (.int .i64))), .c (.o (.dat 2 (.int .i64)))]
def laws_eqInt64S.u (n : Nat) (v : VA laws_eqInt64S.a) (K : RES → Prop) : Prop := laws_eqInt64S.c n v.1 v.2.1 (fun r0 => K ⟨.c (.bool r0), []⟩)
abbrev laws_eqInt64S.l4.s : ST := ⟨[(0, .c (.o (.dat 2 (.int .i64)))), (1, .c (.o (.dat 2 (.int .i64)))), (5, .c (.o (.int .i64)))], [], [], [], []⟩
def laws_eqInt64S.l4.u (n : Nat) (v : laws_eqInt64S.l4.s.V) (K : X → St → Prop) : Prop := laws_eqInt64S.l4 n v.1.1 v.1.2.1 v.1.2.2.1 (K (.exit 0) ⟨[], [], [], [], []⟩) (fun y0 => K .ret ⟨[(4, .c (.bool y0))], [], [], [], []⟩)
theorem laws_eqInt64S.l4_ok : ∀ n v K, laws_eqInt64S.l4.u n v K → loopM C X0 n 23 4 (laws_eqInt64S.l4.s.fill v) K :=
 loop_tell hX (fn := Try.f23) (c := bodyOf Try.f23) (a := loopOf Try.f23 4) (li := liOf (C.fi 23).loops 4) (by kernel_rfl) (by kernel_rfl) (of_decide_eq_true rfl) (by kernel_rfl) (by kernel_rfl) (T := laws_eqInt64S.l4.s) (u := laws_eqInt64S.l4.u) (fun _ _ h => h) (call := D52) (lp := fun n => noL) (D52_ok hX) (fun n => noL_ok) (fun n v K => by kernel_rfl)
theorem laws_eqInt64S_ok : ∀ n v K, laws_eqInt64S.u n v K → callM C X0 n 23 (fillA laws_eqInt64S.a v) K :=
 call_tell hX (fn := Try.f23) (c := bodyOf Try.f23) (by kernel_rfl) (by kernel_rfl) (A := laws_eqInt64S.a) (u := laws_eqInt64S.u) (fun _ _ h => h) (call := D52) (lp := fun n => orL 4 laws_eqInt64S.l4.s (laws_eqInt64S.l4.u n) noL) (D52_ok hX) (fun n => (orL_ok (laws_eqInt64S.l4_ok hX n) noL_ok)) (fun n v K => by kernel_rfl)
def D53 (n : Nat) : CallF := orC 23 laws_eqInt64S.a (laws_eqInt64S.u n) (D52 n)
theorem D53_ok : ∀ n g a K, D53 n g a K → callM C X0 n g a K := fun n => orC_ok (laws_eqInt64S_ok hX n) (D52_ok hX n)
abbrev laws_eqTNode.a : List TS := [.a [.o (.int .i64), .o (.int .i64), .o (.int .i64), .o (.int .i64), .o (.int .i64), .o (.dat 148 (.int .u64)), .o (.dat 2 (.int .i64))], .a [.o (.int .i64), .o (.int .i64), .o (.int .i64), .o (.int .i64), .o (.int .i64), .o (.dat 148 (.int .u64)), .o (.dat 2 (.int .i64))]]
def laws_eqTNode.u (n : Nat) (v : VA laws_eqTNode.a) (K : RES → Prop) : Prop := laws_eqTNode.c n v.1.1 v.1.2.1 v.1.2.2.1 v.1.2.2.2.1 v.1.2.2.2.2.1 v.1.2.2.2.2.2.1 v.1.2.2.2.2.2.2.1 v.2.1.1 v.2.1.2.1 v.2.1.2.2.1 v.2.1.2.2.2.1 v.2.1.2.2.2.2.1 v.2.1.2.2.2.2.2.1 v.2.1.2.2.2.2.2.2.1 (fun r0 => K ⟨.c (.bool r0), []⟩)
theorem laws_eqTNode_ok : ∀ n v K, laws_eqTNode.u n v K → callM C X0 n 123 (fillA laws_eqTNode.a v) K :=
 call_tell hX (fn := Try.f123) (c := bodyOf Try.f123) (by kernel_rfl) (by kernel_rfl) (A := laws_eqTNode.a) (u := laws_eqTNode.u) (fun _ _ h => h) (call := D53) (lp := fun n => noL) (D53_ok hX) (fun n => noL_ok) (fun n v K => by kernel_rfl)
def D54 (n : Nat) : CallF := orC 123 laws_eqTNode.a (laws_eqTNode.u n) (D53 n)
theorem D54_ok : ∀ n g a K, D54 n g a K → callM C X0 n g a K := fun n => orC_ok (laws_eqTNode_ok hX n) (D53_ok hX n)
abbrev laws_eqTNodeS.a : List TS := [.c (.o (.dat 129 (.prod (.int .i64) (.prod (.int .i64) (.prod (.int .i64) (.prod (.int .i64) (.prod (.int .i64) (.prod (.sl 148 (.int .u64)) (.sl 2 (.int .i64)))))))))), .c (.o (.dat 129 (.prod (.int .i64) (.prod (.int .i64) (.prod (.int .i64) (.prod (.int .i64) (.prod (.int .i64) (.prod (.sl 148 (.int .u64)) (.sl 2 (.int .i64))))))))))]
def laws_eqTNodeS.u (n : Nat) (v : VA laws_eqTNodeS.a) (K : RES → Prop) : Prop := laws_eqTNodeS.c n v.1 v.2.1 (fun r0 => K ⟨.c (.bool r0), []⟩)
abbrev laws_eqTNodeS.l4.s : ST := ⟨[(0, .c (.o (.dat 129 (.prod (.int .i64) (.prod (.int .i64) (.prod (.int .i64) (.prod (.int .i64) (.prod (.int .i64) (.prod (.sl 148 (.int .u64)) (.sl 2 (.int .i64))))))))))), (1, .c (.o (.dat 129 (.prod (.int .i64) (.prod (.int .i64) (.prod (.int .i64) (.prod (.int .i64) (.prod (.int .i64) (.prod (.sl 148 (.int .u64)) (.sl 2 (.int .i64))))))))))), (5, .c (.o (.int .i64)))], [], [], [], []⟩
def laws_eqTNodeS.l4.u (n : Nat) (v : laws_eqTNodeS.l4.s.V) (K : X → St → Prop) : Prop := laws_eqTNodeS.l4 n v.1.1 v.1.2.1 v.1.2.2.1 (K (.exit 0) ⟨[], [], [], [], []⟩) (fun y0 => K .ret ⟨[(4, .c (.bool y0))], [], [], [], []⟩)
theorem laws_eqTNodeS.l4_ok : ∀ n v K, laws_eqTNodeS.l4.u n v K → loopM C X0 n 71 4 (laws_eqTNodeS.l4.s.fill v) K :=
 loop_tell hX (fn := Try.f71) (c := bodyOf Try.f71) (a := loopOf Try.f71 4) (li := liOf (C.fi 71).loops 4) (by kernel_rfl) (by kernel_rfl) (of_decide_eq_true rfl) (by kernel_rfl) (by kernel_rfl) (T := laws_eqTNodeS.l4.s) (u := laws_eqTNodeS.l4.u) (fun _ _ h => h) (call := D54) (lp := fun n => noL) (D54_ok hX) (fun n => noL_ok) (fun n v K => by kernel_rfl)
theorem laws_eqTNodeS_ok : ∀ n v K, laws_eqTNodeS.u n v K → callM C X0 n 71 (fillA laws_eqTNodeS.a v) K :=
 call_tell hX (fn := Try.f71) (c := bodyOf Try.f71) (by kernel_rfl) (by kernel_rfl) (A := laws_eqTNodeS.a) (u := laws_eqTNodeS.u) (fun _ _ h => h) (call := D54) (lp := fun n => orL 4 laws_eqTNodeS.l4.s (laws_eqTNodeS.l4.u n) noL) (D54_ok hX) (fun n => (orL_ok (laws_eqTNodeS.l4_ok hX n) noL_ok)) (fun n v K => by kernel_rfl)
def D55 (n : Nat) : CallF := orC 71 laws_eqTNodeS.a (laws_eqTNodeS.u n) (D54 n)
theorem D55_ok : ∀ n g a K, D55 n g a K → callM C X0 n g a K := fun n => orC_ok (laws_eqTNodeS_ok hX n) (D54_ok hX n)
abbrev laws_eqTerm.a : List TS := [.a [.o (.dat 129 (.prod (.int .i64) (.prod (.int .i64) (.prod (.int .i64) (.prod (.int .i64) (.prod (.int .i64) (.prod (.sl 148 (.int .u64)) (.sl 2 (.int .i64)))))))))], .a [.o (.dat 129 (.prod (.int .i64) (.prod (.int .i64) (.prod (.int .i64) (.prod (.int .i64) (.prod (.int .i64) (.prod (.sl 148 (.int .u64)) (.sl 2 (.int .i64)))))))))]]
def laws_eqTerm.u (n : Nat) (v : VA laws_eqTerm.a) (K : RES → Prop) : Prop := laws_eqTerm.c n v.1.1 v.2.1.1 (fun r0 => K ⟨.c (.bool r0), []⟩)
theorem laws_eqTerm_ok : ∀ n v K, laws_eqTerm.u n v K → callM C X0 n 20 (fillA laws_eqTerm.a v) K :=
 call_tell hX (fn := Try.f20) (c := bodyOf Try.f20) (by kernel_rfl) (by kernel_rfl) (A := laws_eqTerm.a) (u := laws_eqTerm.u) (fun _ _ h => h) (call := D55) (lp := fun n => noL) (D55_ok hX) (fun n => noL_ok) (fun n v K => by kernel_rfl)
def D56 (n : Nat) : CallF := orC 20 laws_eqTerm.a (laws_eqTerm.u n) (D55 n)
theorem D56_ok : ∀ n g a K, D56 n g a K → callM C X0 n g a K := fun n => orC_ok (laws_eqTerm_ok hX n) (D55_ok hX n)
abbrev laws_markText.a : List TS := [.c (.o (.int .i64))]
def laws_markText.u (n : Nat) (v : VA laws_markText.a) (K : RES → Prop) : Prop := laws_markText.c n v.1 (fun r0 => K ⟨.c (.str r0), []⟩)
abbrev laws_markText.l4.s : ST := ⟨[(0, .c (.o (.int .i64))), (3, .c (.o .str))], [], [], [], []⟩
def laws_markText.l4.u (n : Nat) (v : laws_markText.l4.s.V) (K : X → St → Prop) : Prop := laws_markText.l4 n v.1.1 v.1.2.1 (fun y0 => K (.exit 0) ⟨[(3, .c (.str y0))], [], [], [], []⟩)
theorem laws_markText.l4_ok : ∀ n v K, laws_markText.l4.u n v K → loopM C X0 n 79 4 (laws_markText.l4.s.fill v) K :=
 loop_tell hX (fn := Try.f79) (c := bodyOf Try.f79) (a := loopOf Try.f79 4) (li := liOf (C.fi 79).loops 4) (by kernel_rfl) (by kernel_rfl) (of_decide_eq_true rfl) (by kernel_rfl) (by kernel_rfl) (T := laws_markText.l4.s) (u := laws_markText.l4.u) (fun _ _ h => h) (call := D56) (lp := fun n => noL) (D56_ok hX) (fun n => noL_ok) (fun n v K => by kernel_rfl)
theorem laws_markText_ok : ∀ n v K, laws_markText.u n v K → callM C X0 n 79 (fillA laws_markText.a v) K :=
 call_tell hX (fn := Try.f79) (c := bodyOf Try.f79) (by kernel_rfl) (by kernel_rfl) (A := laws_markText.a) (u := laws_markText.u) (fun _ _ h => h) (call := D56) (lp := fun n => orL 4 laws_markText.l4.s (laws_markText.l4.u n) noL) (D56_ok hX) (fun n => (orL_ok (laws_markText.l4_ok hX n) noL_ok)) (fun n v K => by kernel_rfl)
def D57 (n : Nat) : CallF := orC 79 laws_markText.a (laws_markText.u n) (D56 n)
theorem D57_ok : ∀ n g a K, D57 n g a K → callM C X0 n g a K := fun n => orC_ok (laws_markText_ok hX n) (D56_ok hX n)
abbrev laws_markDeclS.a : List TS := [.c (.o (.row 100 (.prod .str (.int .i64)) 99)), .c (.o (.int .i64))]
def laws_markDeclS.u (n : Nat) (v : VA laws_markDeclS.a) (K : RES → Prop) : Prop := laws_markDeclS.c n v.1 v.2.1 (fun r0 r1 => K ⟨.c (.int .i64 r0), [[.row ⟨100, .prod .str (.int .i64), r1, 99, none⟩]]⟩)
abbrev laws_markDeclS.l2.s : ST := ⟨[(0, .c (.o (.own 0))), (1, .c (.o (.int .i64))), (5, .c (.o (.int .i64)))], [⟨0, 100, .prod .str (.int .i64), 99⟩], [], [0], []⟩
def laws_markDeclS.l2.u (n : Nat) (v : laws_markDeclS.l2.s.V) (K : X → St → Prop) : Prop := laws_markDeclS.l2 n v.1.2.1 v.1.2.2.1 v.2.1.1 (fun y0 y1 => K (.exit 0) ⟨[(1, .c (.int .i64 y0))], [(0, ⟨100, .prod .str (.int .i64), y1, 99, none⟩)], [], [0], []⟩)
theorem laws_markDeclS.l2_ok : ∀ n v K, laws_markDeclS.l2.u n v K → loopM C X0 n 24 2 (laws_markDeclS.l2.s.fill v) K :=
 loop_tell hX (fn := Try.f24) (c := bodyOf Try.f24) (a := loopOf Try.f24 2) (li := liOf (C.fi 24).loops 2) (by kernel_rfl) (by kernel_rfl) (of_decide_eq_true rfl) (by kernel_rfl) (by kernel_rfl) (T := laws_markDeclS.l2.s) (u := laws_markDeclS.l2.u) (fun _ _ h => h) (call := D57) (lp := fun n => noL) (D57_ok hX) (fun n => noL_ok) (fun n v K => by kernel_rfl)
theorem laws_markDeclS_ok : ∀ n v K, laws_markDeclS.u n v K → callM C X0 n 24 (fillA laws_markDeclS.a v) K :=
 call_tell hX (fn := Try.f24) (c := bodyOf Try.f24) (by kernel_rfl) (by kernel_rfl) (A := laws_markDeclS.a) (u := laws_markDeclS.u) (fun _ _ h => h) (call := D57) (lp := fun n => orL 2 laws_markDeclS.l2.s (laws_markDeclS.l2.u n) noL) (D57_ok hX) (fun n => (orL_ok (laws_markDeclS.l2_ok hX n) noL_ok)) (fun n v K => by kernel_rfl)
def D58 (n : Nat) : CallF := orC 24 laws_markDeclS.a (laws_markDeclS.u n) (D57 n)
theorem D58_ok : ∀ n g a K, D58 n g a K → callM C X0 n g a K := fun n => orC_ok (laws_markDeclS_ok hX n) (D57_ok hX n)
abbrev laws_markUint64S.a : List TS := [.c (.o (.row 148 (.int .u64) 98)), .c (.o (.int .i64))]
def laws_markUint64S.u (n : Nat) (v : VA laws_markUint64S.a) (K : RES → Prop) : Prop := laws_markUint64S.c n v.1 v.2.1 (fun r0 r1 => K ⟨.c (.int .i64 r0), [[.row ⟨148, .int .u64, r1, 98, none⟩]]⟩)
abbrev laws_markUint64S.l2.s : ST := ⟨[(0, .c (.o (.own 0))), (1, .c (.o (.int .i64))), (5, .c (.o (.int .i64)))], [⟨0, 148, .int .u64, 98⟩], [], [0], []⟩
def laws_markUint64S.l2.u (n : Nat) (v : laws_markUint64S.l2.s.V) (K : X → St → Prop) : Prop := laws_markUint64S.l2 n v.1.2.1 v.1.2.2.1 v.2.1.1 (fun y0 y1 => K (.exit 0) ⟨[(1, .c (.int .i64 y0))], [(0, ⟨148, .int .u64, y1, 98, none⟩)], [], [0], []⟩)
theorem laws_markUint64S.l2_ok : ∀ n v K, laws_markUint64S.l2.u n v K → loopM C X0 n 90 2 (laws_markUint64S.l2.s.fill v) K :=
 loop_tell hX (fn := Try.f90) (c := bodyOf Try.f90) (a := loopOf Try.f90 2) (li := liOf (C.fi 90).loops 2) (by kernel_rfl) (by kernel_rfl) (of_decide_eq_true rfl) (by kernel_rfl) (by kernel_rfl) (T := laws_markUint64S.l2.s) (u := laws_markUint64S.l2.u) (fun _ _ h => h) (call := D58) (lp := fun n => noL) (D58_ok hX) (fun n => noL_ok) (fun n v K => by kernel_rfl)
theorem laws_markUint64S_ok : ∀ n v K, laws_markUint64S.u n v K → callM C X0 n 90 (fillA laws_markUint64S.a v) K :=
 call_tell hX (fn := Try.f90) (c := bodyOf Try.f90) (by kernel_rfl) (by kernel_rfl) (A := laws_markUint64S.a) (u := laws_markUint64S.u) (fun _ _ h => h) (call := D58) (lp := fun n => orL 2 laws_markUint64S.l2.s (laws_markUint64S.l2.u n) noL) (D58_ok hX) (fun n => (orL_ok (laws_markUint64S.l2_ok hX n) noL_ok)) (fun n v K => by kernel_rfl)
def D59 (n : Nat) : CallF := orC 90 laws_markUint64S.a (laws_markUint64S.u n) (D58 n)
theorem D59_ok : ∀ n g a K, D59 n g a K → callM C X0 n g a K := fun n => orC_ok (laws_markUint64S_ok hX n) (D58_ok hX n)
abbrev laws_markInt64S.a : List TS := [.c (.o (.row 2 (.int .i64) 98)), .c (.o (.int .i64))]
def laws_markInt64S.u (n : Nat) (v : VA laws_markInt64S.a) (K : RES → Prop) : Prop := laws_markInt64S.c n v.1 v.2.1 (fun r0 r1 => K ⟨.c (.int .i64 r0), [[.row ⟨2, .int .i64, r1, 98, none⟩]]⟩)
abbrev laws_markInt64S.l2.s : ST := ⟨[(0, .c (.o (.own 0))), (1, .c (.o (.int .i64))), (5, .c (.o (.int .i64)))], [⟨0, 2, .int .i64, 98⟩], [], [0], []⟩
def laws_markInt64S.l2.u (n : Nat) (v : laws_markInt64S.l2.s.V) (K : X → St → Prop) : Prop := laws_markInt64S.l2 n v.1.2.1 v.1.2.2.1 v.2.1.1 (fun y0 y1 => K (.exit 0) ⟨[(1, .c (.int .i64 y0))], [(0, ⟨2, .int .i64, y1, 98, none⟩)], [], [0], []⟩)
theorem laws_markInt64S.l2_ok : ∀ n v K, laws_markInt64S.l2.u n v K → loopM C X0 n 26 2 (laws_markInt64S.l2.s.fill v) K :=
 loop_tell hX (fn := Try.f26) (c := bodyOf Try.f26) (a := loopOf Try.f26 2) (li := liOf (C.fi 26).loops 2) (by kernel_rfl) (by kernel_rfl) (of_decide_eq_true rfl) (by kernel_rfl) (by kernel_rfl) (T := laws_markInt64S.l2.s) (u := laws_markInt64S.l2.u) (fun _ _ h => h) (call := D59) (lp := fun n => noL) (D59_ok hX) (fun n => noL_ok) (fun n v K => by kernel_rfl)
theorem laws_markInt64S_ok : ∀ n v K, laws_markInt64S.u n v K → callM C X0 n 26 (fillA laws_markInt64S.a v) K :=
 call_tell hX (fn := Try.f26) (c := bodyOf Try.f26) (by kernel_rfl) (by kernel_rfl) (A := laws_markInt64S.a) (u := laws_markInt64S.u) (fun _ _ h => h) (call := D59) (lp := fun n => orL 2 laws_markInt64S.l2.s (laws_markInt64S.l2.u n) noL) (D59_ok hX) (fun n => (orL_ok (laws_markInt64S.l2_ok hX n) noL_ok)) (fun n v K => by kernel_rfl)
def D60 (n : Nat) : CallF := orC 26 laws_markInt64S.a (laws_markInt64S.u n) (D59 n)
theorem D60_ok : ∀ n g a K, D60 n g a K → callM C X0 n g a K := fun n => orC_ok (laws_markInt64S_ok hX n) (D59_ok hX n)
abbrev laws_markTNodeS.a : List TS := [.c (.o (.row 129 (.prod (.int .i64) (.prod (.int .i64) (.prod (.int .i64) (.prod (.int .i64) (.prod (.int .i64) (.prod (.sl 148 (.int .u64)) (.sl 2 (.int .i64)))))))) 99)), .c (.o (.int .i64))]
def laws_markTNodeS.u (n : Nat) (v : VA laws_markTNodeS.a) (K : RES → Prop) : Prop := laws_markTNodeS.c n v.1 v.2.1 (fun r0 r1 => K ⟨.c (.int .i64 r0), [[.row ⟨129, .prod (.int .i64) (.prod (.int .i64) (.prod (.int .i64) (.prod (.int .i64) (.prod (.int .i64) (.prod (.sl 148 (.int .u64)) (.sl 2 (.int .i64))))))), r1, 99, none⟩]]⟩)
abbrev laws_markTNodeS.l2.s : ST := ⟨[(0, .c (.o (.own 0))), (1, .c (.o (.int .i64))), (5, .c (.o (.int .i64)))], [⟨0, 129, .prod (.int .i64) (.prod (.int .i64) (.prod (.int .i64) (.prod (.int .i64) (.prod (.int .i64) (.prod (.sl 148 (.int .u64)) (.sl 2 (.int .i64))))))), 99⟩], [], [0], []⟩
def laws_markTNodeS.l2.u (n : Nat) (v : laws_markTNodeS.l2.s.V) (K : X → St → Prop) : Prop := laws_markTNodeS.l2 n v.1.2.1 v.1.2.2.1 v.2.1.1 (fun y0 y1 => K (.exit 0) ⟨[(1, .c (.int .i64 y0))], [(0, ⟨129, .prod (.int .i64) (.prod (.int .i64) (.prod (.int .i64) (.prod (.int .i64) (.prod (.int .i64) (.prod (.sl 148 (.int .u64)) (.sl 2 (.int .i64))))))), y1, 99, none⟩)], [], [0], []⟩)
theorem laws_markTNodeS.l2_ok : ∀ n v K, laws_markTNodeS.l2.u n v K → loopM C X0 n 80 2 (laws_markTNodeS.l2.s.fill v) K :=
 loop_tell hX (fn := Try.f80) (c := bodyOf Try.f80) (a := loopOf Try.f80 2) (li := liOf (C.fi 80).loops 2) (by kernel_rfl) (by kernel_rfl) (of_decide_eq_true rfl) (by kernel_rfl) (by kernel_rfl) (T := laws_markTNodeS.l2.s) (u := laws_markTNodeS.l2.u) (fun _ _ h => h) (call := D60) (lp := fun n => noL) (D60_ok hX) (fun n => noL_ok) (fun n v K => by kernel_rfl)
theorem laws_markTNodeS_ok : ∀ n v K, laws_markTNodeS.u n v K → callM C X0 n 80 (fillA laws_markTNodeS.a v) K :=
 call_tell hX (fn := Try.f80) (c := bodyOf Try.f80) (by kernel_rfl) (by kernel_rfl) (A := laws_markTNodeS.a) (u := laws_markTNodeS.u) (fun _ _ h => h) (call := D60) (lp := fun n => orL 2 laws_markTNodeS.l2.s (laws_markTNodeS.l2.u n) noL) (D60_ok hX) (fun n => (orL_ok (laws_markTNodeS.l2_ok hX n) noL_ok)) (fun n v K => by kernel_rfl)
def D61 (n : Nat) : CallF := orC 80 laws_markTNodeS.a (laws_markTNodeS.u n) (D60 n)
theorem D61_ok : ∀ n g a K, D61 n g a K → callM C X0 n g a K := fun n => orC_ok (laws_markTNodeS_ok hX n) (D60_ok hX n)
abbrev laws_markTerm.a : List TS := [.a [.o (.row 129 (.prod (.int .i64) (.prod (.int .i64) (.prod (.int .i64) (.prod (.int .i64) (.prod (.int .i64) (.prod (.sl 148 (.int .u64)) (.sl 2 (.int .i64)))))))) 99)], .c (.o (.int .i64))]
def laws_markTerm.u (n : Nat) (v : VA laws_markTerm.a) (K : RES → Prop) : Prop := laws_markTerm.c n v.1.1 v.2.1 (fun r0 r1 => K ⟨.c (.int .i64 r0), [[.row ⟨129, .prod (.int .i64) (.prod (.int .i64) (.prod (.int .i64) (.prod (.int .i64) (.prod (.int .i64) (.prod (.sl 148 (.int .u64)) (.sl 2 (.int .i64))))))), r1, 99, none⟩]]⟩)
theorem laws_markTerm_ok : ∀ n v K, laws_markTerm.u n v K → callM C X0 n 25 (fillA laws_markTerm.a v) K :=
 call_tell hX (fn := Try.f25) (c := bodyOf Try.f25) (by kernel_rfl) (by kernel_rfl) (A := laws_markTerm.a) (u := laws_markTerm.u) (fun _ _ h => h) (call := D61) (lp := fun n => noL) (D61_ok hX) (fun n => noL_ok) (fun n v K => by kernel_rfl)
def D62 (n : Nat) : CallF := orC 25 laws_markTerm.a (laws_markTerm.u n) (D61 n)
theorem D62_ok : ∀ n g a K, D62 n g a K → callM C X0 n g a K := fun n => orC_ok (laws_markTerm_ok hX n) (D61_ok hX n)
abbrev spec_l15Node.a : List TS := [.a [.o (.int .i64), .o (.int .i64), .o (.int .i64), .o (.int .i64), .o (.int .i64), .o (.dat 148 (.int .u64)), .o (.dat 2 (.int .i64))]]
def spec_l15Node.u (n : Nat) (v : VA spec_l15Node.a) (K : RES → Prop) : Prop := spec_l15Node.c n v.1.1 v.1.2.1 v.1.2.2.1 v.1.2.2.2.1 v.1.2.2.2.2.1 v.1.2.2.2.2.2.1 v.1.2.2.2.2.2.2.1 (fun r0 r1 r2 => K ⟨.tup [.agg [.int .i64 r0, .row ⟨129, .prod (.int .i64) (.prod (.int .i64) (.prod (.int .i64) (.prod (.int .i64) (.prod (.int .i64) (.prod (.sl 148 (.int .u64)) (.sl 2 (.int .i64))))))), r1, 1, none⟩], .c (.bool r2)], []⟩)
theorem spec_l15Node_ok : ∀ n v K, spec_l15Node.u n v K → callM C X0 n 129 (fillA spec_l15Node.a v) K :=
 call_tell hX (fn := Try.f129) (c := bodyOf Try.f129) (by kernel_rfl) (by kernel_rfl) (A := spec_l15Node.a) (u := spec_l15Node.u) (fun _ _ h => h) (call := D62) (lp := fun n => noL) (D62_ok hX) (fun n => noL_ok) (fun n v K => by kernel_rfl)
def D63 (n : Nat) : CallF := orC 129 spec_l15Node.a (spec_l15Node.u n) (D62 n)
theorem D63_ok : ∀ n g a K, D63 n g a K → callM C X0 n g a K := fun n => orC_ok (spec_l15Node_ok hX n) (D62_ok hX n)
abbrev spec_l15Const.a : List TS := [.a [.o (.dat 129 (.prod (.int .i64) (.prod (.int .i64) (.prod (.int .i64) (.prod (.int .i64) (.prod (.int .i64) (.prod (.sl 148 (.int .u64)) (.sl 2 (.int .i64)))))))))], .a [.o (.int .i64), .o (.int .i64), .o (.int .i64), .o (.int .i64), .o (.int .i64), .o (.dat 148 (.int .u64)), .o (.dat 2 (.int .i64))]]
def spec_l15Const.u (n : Nat) (v : VA spec_l15Const.a) (K : RES → Prop) : Prop := spec_l15Const.c n v.1.1 v.2.1.1 v.2.1.2.1 v.2.1.2.2.1 v.2.1.2.2.2.1 v.2.1.2.2.2.2.1 v.2.1.2.2.2.2.2.1 v.2.1.2.2.2.2.2.2.1 (fun r0 r1 r2 => K ⟨.tup [.agg [.int .i64 r0, .row ⟨129, .prod (.int .i64) (.prod (.int .i64) (.prod (.int .i64) (.prod (.int .i64) (.prod (.int .i64) (.prod (.sl 148 (.int .u64)) (.sl 2 (.int .i64))))))), r1, 1, none⟩], .c (.bool r2)], []⟩)
abbrev spec_l15Const.l3.s : ST := ⟨[(2, .c (.o (.pbox 2 0))), (3, .c (.o (.pbox 3 0))), (4, .c (.o (.pbox 4 0))), (6, .c (.o (.own 192))), (7, .c (.o (.int .i64)))], [⟨192, 49, .prod (.int .i64) (.sl 148 (.int .u64)), 1⟩, ⟨1000129, 129, .prod (.int .i64) (.prod (.int .i64) (.prod (.int .i64) (.prod (.int .i64) (.prod (.int .i64) (.prod (.sl 148 (.int .u64)) (.sl 2 (.int .i64))))))), 99⟩], [⟨2, 33, [.o (.dat 129 (.prod (.int .i64) (.prod (.int .i64) (.prod (.int .i64) (.prod (.int .i64) (.prod (.int .i64) (.prod (.sl 148 (.int .u64)) (.sl 2 (.int .i64)))))))))], false⟩, ⟨3, 129, [.o (.int .i64), .o (.int .i64), .o (.int .i64), .o (.int .i64), .o (.int .i64), .o (.dat 148 (.int .u64)), .o (.dat 2 (.int .i64))], false⟩, ⟨4, 107, [.o (.int .i64), .o (.own 1000129)], false⟩], [], []⟩
def spec_l15Const.l3.u (n : Nat) (v : spec_l15Const.l3.s.V) (K : X → St → Prop) : Prop := spec_l15Const.l3 n v.2.1.2.1 v.2.2.1.1 v.2.2.2.1.1 v.2.2.2.1.2.1 v.2.2.2.1.2.2.1 v.2.2.2.1.2.2.2.1 v.2.2.2.1.2.2.2.2.1 v.2.2.2.1.2.2.2.2.2.1 v.2.2.2.1.2.2.2.2.2.2.1 v.2.2.2.2.1.1 v.1.2.2.2.2.1 v.2.1.1 (fun y0 y1 y2 y3 y4 y5 y6 y7 y8 y9 => K (.exit 0) ⟨[(3, .c (.pbox 3 0)), (4, .c (.pbox 4 0)), (6, .c (.own 192))], [(192, ⟨49, .prod (.int .i64) (.sl 148 (.int .u64)), y0, 1, none⟩), (1000129, ⟨129, .prod (.int .i64) (.prod (.int .i64) (.prod (.int .i64) (.prod (.int .i64) (.prod (.int .i64) (.prod (.sl 148 (.int .u64)) (.sl 2 (.int .i64))))))), y1, 99, none⟩)], [(3, ⟨129, [.int .i64 y2, .int .i64 y3, .int .i64 y4, .int .i64 y5, .int .i64 y6, .dat 148 (.int .u64) y7, .dat 2 (.int .i64) y8], false⟩), (4, ⟨107, [.int .i64 y9, .own 1000129], false⟩)], [], []⟩) (fun y0 y1 y2 => K .ret ⟨[(4, .c (.pbox 4 0)), (5, .c (.bool y0))], [(865, ⟨129, .prod (.int .i64) (.prod (.int .i64) (.prod (.int .i64) (.prod (.int .i64) (.prod (.int .i64) (.prod (.sl 148 (.int .u64)) (.sl 2 (.int .i64))))))), y1, 99, none⟩)], [(4, ⟨107, [.int .i64 y2, .own 865], false⟩)], [], []⟩)
theorem spec_l15Const.l3_ok : ∀ n v K, spec_l15Const.l3.u n v K → loopM C X0 n 127 3 (spec_l15Const.l3.s.fill v) K :=
 loop_tell hX (fn := Try.f127) (c := bodyOf Try.f127) (a := loopOf Try.f127 3) (li := liOf (C.fi 127).loops 3) (by kernel_rfl) (by kernel_rfl) (of_decide_eq_true rfl) (by kernel_rfl) (by kernel_rfl) (T := spec_l15Const.l3.s) (u := spec_l15Const.l3.u) (fun _ _ h => h) (call := D63) (lp := fun n => noL) (D63_ok hX) (fun n => noL_ok) (fun n v K => by kernel_rfl)
theorem spec_l15Const_ok : ∀ n v K, spec_l15Const.u n v K → callM C X0 n 127 (fillA spec_l15Const.a v) K :=
 call_tell hX (fn := Try.f127) (c := bodyOf Try.f127) (by kernel_rfl) (by kernel_rfl) (A := spec_l15Const.a) (u := spec_l15Const.u) (fun _ _ h => h) (call := D63) (lp := fun n => orL 3 spec_l15Const.l3.s (spec_l15Const.l3.u n) noL) (D63_ok hX) (fun n => (orL_ok (spec_l15Const.l3_ok hX n) noL_ok)) (fun n v K => by kernel_rfl)
def D64 (n : Nat) : CallF := orC 127 spec_l15Const.a (spec_l15Const.u n) (D63 n)
theorem D64_ok : ∀ n g a K, D64 n g a K → callM C X0 n g a K := fun n => orC_ok (spec_l15Const_ok hX n) (D63_ok hX n)
abbrev spec_l15Kid.a : List TS := [.c (.o (.int .i64))]
def spec_l15Kid.u (n : Nat) (v : VA spec_l15Kid.a) (K : RES → Prop) : Prop := spec_l15Kid.c n v.1 (fun r0 r1 r2 => K ⟨.tup [.agg [.int .i64 r0, .row ⟨129, .prod (.int .i64) (.prod (.int .i64) (.prod (.int .i64) (.prod (.int .i64) (.prod (.int .i64) (.prod (.sl 148 (.int .u64)) (.sl 2 (.int .i64))))))), r1, 99, none⟩], .c (.bool r2)], []⟩)
theorem spec_l15Kid_ok : ∀ n v K, spec_l15Kid.u n v K → callM C X0 n 128 (fillA spec_l15Kid.a v) K :=
 call_tell hX (fn := Try.f128) (c := bodyOf Try.f128) (by kernel_rfl) (by kernel_rfl) (A := spec_l15Kid.a) (u := spec_l15Kid.u) (fun _ _ h => h) (call := D64) (lp := fun n => noL) (D64_ok hX) (fun n => noL_ok) (fun n v K => by kernel_rfl)
def D65 (n : Nat) : CallF := orC 128 spec_l15Kid.a (spec_l15Kid.u n) (D64 n)
theorem D65_ok : ∀ n g a K, D65 n g a K → callM C X0 n g a K := fun n => orC_ok (spec_l15Kid_ok hX n) (D64_ok hX n)
abbrev spec_BitsOf.a : List TS := [.c (.o (.int .i64)), .c (.o (.int .i64))]
def spec_BitsOf.u (n : Nat) (v : VA spec_BitsOf.a) (K : RES → Prop) : Prop := spec_BitsOf.c n v.1 v.2.1 (fun r0 r1 r2 => K ⟨.tup [.agg [.int .i64 r0, .row ⟨148, .int .u64, r1, 99, none⟩], .c (.bool r2)], []⟩)
abbrev spec_BitsOf.l5.s : ST := ⟨[(0, .c (.o (.int .i64))), (1, .c (.o (.int .i64))), (4, .c (.o (.pbox 4 0))), (6, .c (.o (.own 192))), (7, .c (.o (.int .i64)))], [⟨192, 5, .int .u8, 99⟩, ⟨1000129, 148, .int .u64, 99⟩], [⟨4, 49, [.o (.int .i64), .o (.own 1000129)], false⟩], [], []⟩
def spec_BitsOf.l5.u (n : Nat) (v : spec_BitsOf.l5.s.V) (K : X → St → Prop) : Prop := spec_BitsOf.l5 n v.1.1 v.2.1.2.1 v.2.2.1.1 v.1.2.1 v.1.2.2.2.2.1 v.2.1.1 (fun y0 y1 y2 y3 => K (.exit 0) ⟨[(1, .c (.int .i64 y0)), (4, .c (.pbox 4 0)), (6, .c (.own 192))], [(192, ⟨5, .int .u8, y1, 99, none⟩), (1000129, ⟨148, .int .u64, y2, 99, none⟩)], [(4, ⟨49, [.int .i64 y3, .own 1000129], false⟩)], [], []⟩)
theorem spec_BitsOf.l5_ok : ∀ n v K, spec_BitsOf.l5.u n v K → loopM C X0 n 130 5 (spec_BitsOf.l5.s.fill v) K :=
 loop_tell hX (fn := Try.f130) (c := bodyOf Try.f130) (a := loopOf Try.f130 5) (li := liOf (C.fi 130).loops 5) (by kernel_rfl) (by kernel_rfl) (of_decide_eq_true rfl) (by kernel_rfl) (by kernel_rfl) (T := spec_BitsOf.l5.s) (u := spec_BitsOf.l5.u) (fun _ _ h => h) (call := D65) (lp := fun n => noL) (D65_ok hX) (fun n => noL_ok) (fun n v K => by kernel_rfl)
theorem spec_BitsOf_ok : ∀ n v K, spec_BitsOf.u n v K → callM C X0 n 130 (fillA spec_BitsOf.a v) K :=
 call_tell hX (fn := Try.f130) (c := bodyOf Try.f130) (by kernel_rfl) (by kernel_rfl) (A := spec_BitsOf.a) (u := spec_BitsOf.u) (fun _ _ h => h) (call := D65) (lp := fun n => orL 5 spec_BitsOf.l5.s (spec_BitsOf.l5.u n) noL) (D65_ok hX) (fun n => (orL_ok (spec_BitsOf.l5_ok hX n) noL_ok)) (fun n v K => by kernel_rfl)
def D66 (n : Nat) : CallF := orC 130 spec_BitsOf.a (spec_BitsOf.u n) (D65 n)
theorem D66_ok : ∀ n g a K, D66 n g a K → callM C X0 n g a K := fun n => orC_ok (spec_BitsOf_ok hX n) (D65_ok hX n)
abbrev spec_l15Inner.a : List TS := [.a [.o (.int .i64), .o (.int .i64), .o (.int .i64), .o (.int .i64), .o (.int .i64), .o (.dat 148 (.int .u64)), .o (.dat 2 (.int .i64))], .c (.o (.dat 2 (.int .i64))), .c (.o (.int .i64)), .c (.o (.int .i64))]
def spec_l15Inner.u (n : Nat) (v : VA spec_l15Inner.a) (K : RES → Prop) : Prop := spec_l15Inner.c n v.1.1 v.1.2.1 v.1.2.2.1 v.1.2.2.2.1 v.1.2.2.2.2.1 v.1.2.2.2.2.2.1 v.1.2.2.2.2.2.2.1 v.2.1 v.2.2.1 v.2.2.2.1 (fun r0 r1 => K ⟨.tup [.c (.int .i64 r0), .c (.int .i64 r1)], []⟩)
abbrev spec_l15Inner.l3.s : ST := ⟨[(1, .c (.o (.dat 2 (.int .i64)))), (2, .c (.o (.int .i64))), (3, .c (.o (.int .i64))), (4, .c (.o (.pbox 4 0))), (10, .c (.o (.int .i64))), (11, .c (.o (.int .i64)))], [], [⟨4, 129, [.o (.int .i64), .o (.int .i64), .o (.int .i64), .o (.int .i64), .o (.int .i64), .o (.dat 148 (.int .u64)), .o (.dat 2 (.int .i64))], false⟩], [], []⟩
def spec_l15Inner.l3.u (n : Nat) (v : spec_l15Inner.l3.s.V) (K : X → St → Prop) : Prop := spec_l15Inner.l3 n v.1.1 v.1.2.1 v.1.2.2.1 v.2.2.1.1 v.2.2.1.2.1 v.2.2.1.2.2.1 v.2.2.1.2.2.2.1 v.2.2.1.2.2.2.2.1 v.2.2.1.2.2.2.2.2.1 v.2.2.1.2.2.2.2.2.2.1 v.1.2.2.2.2.1 v.1.2.2.2.2.2.1 (K (.exit 0) ⟨[], [], [], [], []⟩) (fun y0 y1 => K .ret ⟨[(8, .c (.int .i64 y0)), (9, .c (.int .i64 y1))], [], [], [], []⟩)
theorem spec_l15Inner.l3_ok : ∀ n v K, spec_l15Inner.l3.u n v K → loopM C X0 n 131 3 (spec_l15Inner.l3.s.fill v) K :=
 loop_tell hX (fn := Try.f131) (c := bodyOf Try.f131) (a := loopOf Try.f131 3) (li := liOf (C.fi 131).loops 3) (by kernel_rfl) (by kernel_rfl) (of_decide_eq_true rfl) (by kernel_rfl) (by kernel_rfl) (T := spec_l15Inner.l3.s) (u := spec_l15Inner.l3.u) (fun _ _ h => h) (call := D66) (lp := fun n => noL) (D66_ok hX) (fun n => noL_ok) (fun n v K => by kernel_rfl)
theorem spec_l15Inner_ok : ∀ n v K, spec_l15Inner.u n v K → callM C X0 n 131 (fillA spec_l15Inner.a v) K :=
 call_tell hX (fn := Try.f131) (c := bodyOf Try.f131) (by kernel_rfl) (by kernel_rfl) (A := spec_l15Inner.a) (u := spec_l15Inner.u) (fun _ _ h => h) (call := D66) (lp := fun n => orL 3 spec_l15Inner.l3.s (spec_l15Inner.l3.u n) noL) (D66_ok hX) (fun n => (orL_ok (spec_l15Inner.l3_ok hX n) noL_ok)) (fun n v K => by kernel_rfl)
def D67 (n : Nat) : CallF := orC 131 spec_l15Inner.a (spec_l15Inner.u n) (D66 n)
theorem D67_ok : ∀ n g a K, D67 n g a K → callM C X0 n g a K := fun n => orC_ok (spec_l15Inner_ok hX n) (D66_ok hX n)
abbrev spec_l15Fit.a : List TS := [.a [.o (.dat 129 (.prod (.int .i64) (.prod (.int .i64) (.prod (.int .i64) (.prod (.int .i64) (.prod (.int .i64) (.prod (.sl 148 (.int .u64)) (.sl 2 (.int .i64)))))))))], .c (.o (.dat 2 (.int .i64))), .c (.o (.int .i64)), .c (.o (.int .i64))]
def spec_l15Fit.u (n : Nat) (v : VA spec_l15Fit.a) (K : RES → Prop) : Prop := spec_l15Fit.c n v.1.1 v.2.1 v.2.2.1 v.2.2.2.1 (fun r0 r1 r2 => K ⟨.tup [.agg [.int .i64 r0, .row ⟨129, .prod (.int .i64) (.prod (.int .i64) (.prod (.int .i64) (.prod (.int .i64) (.prod (.int .i64) (.prod (.sl 148 (.int .u64)) (.sl 2 (.int .i64))))))), r1, 1, none⟩], .c (.bool r2)], []⟩)
abbrev spec_l15Fit.q16.s : ST := ⟨[(8, .c (.o (.pbox 8 0))), (10, .c (.o (.pbox 10 0))), (12, .c (.o (.pbox 12 0))), (92, .c (.o .bool))], [⟨1000257, 129, .prod (.int .i64) (.prod (.int .i64) (.prod (.int .i64) (.prod (.int .i64) (.prod (.int .i64) (.prod (.sl 148 (.int .u64)) (.sl 2 (.int .i64))))))), 99⟩], [⟨8, 107, [.o (.int .i64), .o (.own 1000257)], false⟩, ⟨10, 129, [.o (.int .i64), .o (.int .i64), .o (.int .i64), .o (.int .i64), .o (.int .i64), .o (.dat 148 (.int .u64)), .o (.dat 2 (.int .i64))], false⟩, ⟨12, 129, [.o (.int .i64), .o (.int .i64), .o (.int .i64), .o (.int .i64), .o (.int .i64), .o (.dat 148 (.int .u64)), .o (.dat 2 (.int .i64))], false⟩], [], []⟩
def spec_l15Fit.q16.u (n : Nat) (v : spec_l15Fit.q16.s.V) (K : X → St → Prop) : Prop := spec_l15Fit.q16 n v.1.2.2.2.1 v.2.1.1 v.2.2.1.1 v.2.2.2.1.1 v.2.2.2.1.2.1 v.2.2.2.1.2.2.1 v.2.2.2.1.2.2.2.1 v.2.2.2.1.2.2.2.2.1 v.2.2.2.1.2.2.2.2.2.1 v.2.2.2.1.2.2.2.2.2.2.1 v.2.2.2.2.1.1 v.2.2.2.2.1.2.1 v.2.2.2.2.1.2.2.1 v.2.2.2.2.1.2.2.2.1 v.2.2.2.2.1.2.2.2.2.1 v.2.2.2.2.1.2.2.2.2.2.1 v.2.2.2.2.1.2.2.2.2.2.2.1 (fun y0 y1 y2 => K .ret ⟨[(8, .c (.pbox 8 0)), (9, .c (.bool y0))], [(3489, ⟨129, .prod (.int .i64) (.prod (.int .i64) (.prod (.int .i64) (.prod (.int .i64) (.prod (.int .i64) (.prod (.sl 148 (.int .u64)) (.sl 2 (.int .i64))))))), y1, 1, none⟩)], [(8, ⟨107, [.int .i64 y2, .own 3489], false⟩)], [], []⟩) (fun y0 y1 => K .normal ⟨[(8, .c (.pbox 8 0))], [(1000257, ⟨129, .prod (.int .i64) (.prod (.int .i64) (.prod (.int .i64) (.prod (.int .i64) (.prod (.int .i64) (.prod (.sl 148 (.int .u64)) (.sl 2 (.int .i64))))))), y0, 99, none⟩)], [(8, ⟨107, [.int .i64 y1, .own 1000257], false⟩)], [], []⟩)
abbrev spec_l15Fit.l34.s : ST := ⟨[(8, .c (.o (.pbox 8 0))), (10, .c (.o (.pbox 10 0))), (11, .c (.o (.int .i64))), (17, .c (.o (.pbox 17 0))), (18, .c (.o (.int .i64)))], [⟨6469, 148, .int .u64, 99⟩, ⟨1000257, 129, .prod (.int .i64) (.prod (.int .i64) (.prod (.int .i64) (.prod (.int .i64) (.prod (.int .i64) (.prod (.sl 148 (.int .u64)) (.sl 2 (.int .i64))))))), 99⟩, ⟨1000550, 2, .int .i64, 99⟩], [⟨8, 107, [.o (.int .i64), .o (.own 1000257)], false⟩, ⟨10, 129, [.o (.int .i64), .o (.int .i64), .o (.int .i64), .o (.int .i64), .o (.int .i64), .o (.dat 148 (.int .u64)), .o (.dat 2 (.int .i64))], false⟩, ⟨17, 129, [.o (.int .i64), .o (.int .i64), .o (.int .i64), .o (.int .i64), .o (.int .i64), .o (.own 6469), .o (.own 1000550)], false⟩], [], []⟩
def spec_l15Fit.l34.u (n : Nat) (v : spec_l15Fit.l34.s.V) (K : X → St → Prop) : Prop := spec_l15Fit.l34 n v.1.2.2.1 v.2.1.1 v.2.1.2.1 v.2.2.1.1 v.2.2.2.1.1 v.2.2.2.1.2.1 v.2.2.2.1.2.2.1 v.2.2.2.1.2.2.2.1 v.2.2.2.1.2.2.2.2.1 v.2.2.2.1.2.2.2.2.2.1 v.2.2.2.1.2.2.2.2.2.2.1 v.2.2.2.2.1.1 v.2.2.2.2.1.2.1 v.2.2.2.2.1.2.2.1 v.2.2.2.2.1.2.2.2.1 v.2.2.2.2.1.2.2.2.2.1 v.1.2.2.2.2.1 v.2.1.2.2.1 (fun y0 y1 y2 y3 y4 y5 y6 y7 y8 => K (.exit 1) ⟨[(8, .c (.pbox 8 0)), (17, .c (.pbox 17 0))], [(6469, ⟨148, .int .u64, y0, 99, none⟩), (1000257, ⟨129, .prod (.int .i64) (.prod (.int .i64) (.prod (.int .i64) (.prod (.int .i64) (.prod (.int .i64) (.prod (.sl 148 (.int .u64)) (.sl 2 (.int .i64))))))), y1, 99, none⟩), (1000550, ⟨2, .int .i64, y2, 99, none⟩)], [(8, ⟨107, [.int .i64 y3, .own 1000257], false⟩), (17, ⟨129, [.int .i64 y4, .int .i64 y5, .int .i64 y6, .int .i64 y7, .int .i64 y8, .own 6469, .own 1000550], false⟩)], [], []⟩)
abbrev spec_l15Fit.l43.s : ST := ⟨[(4, .c (.o (.pbox 4 0))), (8, .c (.o (.pbox 8 0))), (10, .c (.o (.pbox 10 0))), (19, .c (.o (.int .i64)))], [⟨1000257, 129, .prod (.int .i64) (.prod (.int .i64) (.prod (.int .i64) (.prod (.int .i64) (.prod (.int .i64) (.prod (.sl 148 (.int .u64)) (.sl 2 (.int .i64))))))), 99⟩], [⟨4, 33, [.o (.dat 129 (.prod (.int .i64) (.prod (.int .i64) (.prod (.int .i64) (.prod (.int .i64) (.prod (.int .i64) (.prod (.sl 148 (.int .u64)) (.sl 2 (.int .i64)))))))))], false⟩, ⟨8, 107, [.o (.int .i64), .o (.own 1000257)], false⟩, ⟨10, 129, [.o (.int .i64), .o (.int .i64), .o (.int .i64), .o (.int .i64), .o (.int .i64), .o (.dat 148 (.int .u64)), .o (.dat 2 (.int .i64))], false⟩], [], []⟩
def spec_l15Fit.l43.u (n : Nat) (v : spec_l15Fit.l43.s.V) (K : X → St → Prop) : Prop := spec_l15Fit.l43 n v.2.1.1 v.2.2.1.1 v.2.2.2.1.1 v.2.2.2.2.1.1 v.2.2.2.2.1.2.1 v.2.2.2.2.1.2.2.1 v.2.2.2.2.1.2.2.2.1 v.2.2.2.2.1.2.2.2.2.1 v.2.2.2.2.1.2.2.2.2.2.1 v.2.2.2.2.1.2.2.2.2.2.2.1 v.1.2.2.2.1 (fun y0 y1 => K (.exit 3) ⟨[(8, .c (.pbox 8 0))], [(1000257, ⟨129, .prod (.int .i64) (.prod (.int .i64) (.prod (.int .i64) (.prod (.int .i64) (.prod (.int .i64) (.prod (.sl 148 (.int .u64)) (.sl 2 (.int .i64))))))), y0, 99, none⟩)], [(8, ⟨107, [.int .i64 y1, .own 1000257], false⟩)], [], []⟩) (fun y0 y1 y2 => K .ret ⟨[(8, .c (.pbox 8 0)), (9, .c (.bool y0))], [(9089, ⟨129, .prod (.int .i64) (.prod (.int .i64) (.prod (.int .i64) (.prod (.int .i64) (.prod (.int .i64) (.prod (.sl 148 (.int .u64)) (.sl 2 (.int .i64))))))), y1, 1, none⟩)], [(8, ⟨107, [.int .i64 y2, .own 9089], false⟩)], [], []⟩)
abbrev spec_l15Fit.q10.s : ST := ⟨[(1, .c (.o (.dat 2 (.int .i64)))), (3, .c (.o (.int .i64))), (4, .c (.o (.pbox 4 0))), (8, .c (.o (.pbox 8 0))), (10, .c (.o (.pbox 10 0))), (11, .c (.o (.int .i64))), (12, .c (.o (.pbox 12 0))), (13, .c (.o (.int .i64))), (14, .c (.o .bool))], [⟨1000257, 129, .prod (.int .i64) (.prod (.int .i64) (.prod (.int .i64) (.prod (.int .i64) (.prod (.int .i64) (.prod (.sl 148 (.int .u64)) (.sl 2 (.int .i64))))))), 99⟩], [⟨4, 33, [.o (.dat 129 (.prod (.int .i64) (.prod (.int .i64) (.prod (.int .i64) (.prod (.int .i64) (.prod (.int .i64) (.prod (.sl 148 (.int .u64)) (.sl 2 (.int .i64)))))))))], false⟩, ⟨8, 107, [.o (.int .i64), .o (.own 1000257)], false⟩, ⟨10, 129, [.o (.int .i64), .o (.int .i64), .o (.int .i64), .o (.int .i64), .o (.int .i64), .o (.dat 148 (.int .u64)), .o (.dat 2 (.int .i64))], false⟩, ⟨12, 129, [.o (.int .i64), .o (.int .i64), .o (.int .i64), .o (.int .i64), .o (.int .i64), .o (.dat 148 (.int .u64)), .o (.dat 2 (.int .i64))], false⟩], [], []⟩
def spec_l15Fit.q10.u (n : Nat) (v : spec_l15Fit.q10.s.V) (K : X → St → Prop) : Prop := spec_l15Fit.q10 n v.1.1 v.1.2.1 v.1.2.2.2.2.2.1 v.1.2.2.2.2.2.2.2.1 v.1.2.2.2.2.2.2.2.2.1 v.2.1.1 v.2.2.1.1 v.2.2.2.1.1 v.2.2.2.2.1.1 v.2.2.2.2.1.2.1 v.2.2.2.2.1.2.2.1 v.2.2.2.2.1.2.2.2.1 v.2.2.2.2.1.2.2.2.2.1 v.2.2.2.2.1.2.2.2.2.2.1 v.2.2.2.2.1.2.2.2.2.2.2.1 v.2.2.2.2.2.1.1 v.2.2.2.2.2.1.2.1 v.2.2.2.2.2.1.2.2.1 v.2.2.2.2.2.1.2.2.2.1 v.2.2.2.2.2.1.2.2.2.2.1 v.2.2.2.2.2.1.2.2.2.2.2.1 v.2.2.2.2.2.1.2.2.2.2.2.2.1 (fun y0 y1 y2 => K .ret ⟨[(8, .c (.pbox 8 0)), (9, .c (.bool y0))], [(10337, ⟨129, .prod (.int .i64) (.prod (.int .i64) (.prod (.int .i64) (.prod (.int .i64) (.prod (.int .i64) (.prod (.sl 148 (.int .u64)) (.sl 2 (.int .i64))))))), y1, 99, none⟩)], [(8, ⟨107, [.int .i64 y2, .own 10337], false⟩)], [], []⟩) (fun y0 y1 y2 => K .ret ⟨[(8, .c (.pbox 8 0)), (9, .c (.bool y0))], [(2561, ⟨129, .prod (.int .i64) (.prod (.int .i64) (.prod (.int .i64) (.prod (.int .i64) (.prod (.int .i64) (.prod (.sl 148 (.int .u64)) (.sl 2 (.int .i64))))))), y1, 99, none⟩)], [(8, ⟨107, [.int .i64 y2, .own 2561], false⟩)], [], []⟩) (fun y0 y1 y2 => K .ret ⟨[(8, .c (.pbox 8 0)), (9, .c (.bool y0))], [(3489, ⟨129, .prod (.int .i64) (.prod (.int .i64) (.prod (.int .i64) (.prod (.int .i64) (.prod (.int .i64) (.prod (.sl 148 (.int .u64)) (.sl 2 (.int .i64))))))), y1, 1, none⟩)], [(8, ⟨107, [.int .i64 y2, .own 3489], false⟩)], [], []⟩) (fun y0 y1 y2 => K .ret ⟨[(8, .c (.pbox 8 0)), (9, .c (.bool y0))], [(3937, ⟨129, .prod (.int .i64) (.prod (.int .i64) (.prod (.int .i64) (.prod (.int .i64) (.prod (.int .i64) (.prod (.sl 148 (.int .u64)) (.sl 2 (.int .i64))))))), y1, 99, none⟩)], [(8, ⟨107, [.int .i64 y2, .own 3937], false⟩)], [], []⟩) (fun y0 y1 y2 => K .ret ⟨[(8, .c (.pbox 8 0)), (9, .c (.bool y0))], [(4705, ⟨129, .prod (.int .i64) (.prod (.int .i64) (.prod (.int .i64) (.prod (.int .i64) (.prod (.int .i64) (.prod (.sl 148 (.int .u64)) (.sl 2 (.int .i64))))))), y1, 1, none⟩)], [(8, ⟨107, [.int .i64 y2, .own 4705], false⟩)], [], []⟩) (fun y0 y1 y2 => K .ret ⟨[(8, .c (.pbox 8 0)), (9, .c (.bool y0))], [(5313, ⟨129, .prod (.int .i64) (.prod (.int .i64) (.prod (.int .i64) (.prod (.int .i64) (.prod (.int .i64) (.prod (.sl 148 (.int .u64)) (.sl 2 (.int .i64))))))), y1, 99, none⟩)], [(8, ⟨107, [.int .i64 y2, .own 5313], false⟩)], [], []⟩) (fun y0 y1 y2 => K .ret ⟨[(8, .c (.pbox 8 0)), (9, .c (.bool y0))], [(6080, ⟨129, .prod (.int .i64) (.prod (.int .i64) (.prod (.int .i64) (.prod (.int .i64) (.prod (.int .i64) (.prod (.sl 148 (.int .u64)) (.sl 2 (.int .i64))))))), y1, 99, none⟩)], [(8, ⟨107, [.int .i64 y2, .own 6080], false⟩)], [], []⟩) (fun y0 y1 y2 => K .ret ⟨[(8, .c (.pbox 8 0)), (9, .c (.bool y0))], [(6913, ⟨129, .prod (.int .i64) (.prod (.int .i64) (.prod (.int .i64) (.prod (.int .i64) (.prod (.int .i64) (.prod (.sl 148 (.int .u64)) (.sl 2 (.int .i64))))))), y1, 1, none⟩)], [(8, ⟨107, [.int .i64 y2, .own 6913], false⟩)], [], []⟩) (fun y0 y1 y2 => K .ret ⟨[(8, .c (.pbox 8 0)), (9, .c (.bool y0))], [(7361, ⟨129, .prod (.int .i64) (.prod (.int .i64) (.prod (.int .i64) (.prod (.int .i64) (.prod (.int .i64) (.prod (.sl 148 (.int .u64)) (.sl 2 (.int .i64))))))), y1, 99, none⟩)], [(8, ⟨107, [.int .i64 y2, .own 7361], false⟩)], [], []⟩) (fun y0 y1 y2 => K .ret ⟨[(8, .c (.pbox 8 0)), (9, .c (.bool y0))], [(9089, ⟨129, .prod (.int .i64) (.prod (.int .i64) (.prod (.int .i64) (.prod (.int .i64) (.prod (.int .i64) (.prod (.sl 148 (.int .u64)) (.sl 2 (.int .i64))))))), y1, 1, none⟩)], [(8, ⟨107, [.int .i64 y2, .own 9089], false⟩)], [], []⟩) (fun y0 y1 y2 => K .ret ⟨[(8, .c (.pbox 8 0)), (9, .c (.bool y0))], [(10241, ⟨129, .prod (.int .i64) (.prod (.int .i64) (.prod (.int .i64) (.prod (.int .i64) (.prod (.int .i64) (.prod (.sl 148 (.int .u64)) (.sl 2 (.int .i64))))))), y1, 1, none⟩)], [(8, ⟨107, [.int .i64 y2, .own 10241], false⟩)], [], []⟩)
theorem spec_l15Fit.q16_ok : ∀ n v K, spec_l15Fit.q16.u n v K → loopM C X0 n 74 1000016 (spec_l15Fit.q16.s.fill v) K :=
 cut_tell hX (fn := Try.f74) (c := bodyOf Try.f74) (a := cutOf Try.f74 16) (li := liOf (C.fi 74).loops 1000016) (by kernel_rfl) (by kernel_rfl) (of_decide_eq_true rfl) (by kernel_rfl) (by kernel_rfl) (T := spec_l15Fit.q16.s) (u := spec_l15Fit.q16.u) (fun _ _ h => h) (call := D67) (lp := fun n => noL) (D67_ok hX) (fun n => noL_ok) (fun n v K => by kernel_rfl)
theorem spec_l15Fit.l34_ok : ∀ n v K, spec_l15Fit.l34.u n v K → loopM C X0 n 74 34 (spec_l15Fit.l34.s.fill v) K :=
 loop_tell hX (fn := Try.f74) (c := bodyOf Try.f74) (a := loopOf Try.f74 34) (li := liOf (C.fi 74).loops 34) (by kernel_rfl) (by kernel_rfl) (of_decide_eq_true rfl) (by kernel_rfl) (by kernel_rfl) (T := spec_l15Fit.l34.s) (u := spec_l15Fit.l34.u) (fun _ _ h => h) (call := D67) (lp := fun n => noL) (D67_ok hX) (fun n => noL_ok) (fun n v K => by kernel_rfl)
theorem spec_l15Fit.l43_ok : ∀ n v K, spec_l15Fit.l43.u n v K → loopM C X0 n 74 43 (spec_l15Fit.l43.s.fill v) K :=
 loop_tell hX (fn := Try.f74) (c := bodyOf Try.f74) (a := loopOf Try.f74 43) (li := liOf (C.fi 74).loops 43) (by kernel_rfl) (by kernel_rfl) (of_decide_eq_true rfl) (by kernel_rfl) (by kernel_rfl) (T := spec_l15Fit.l43.s) (u := spec_l15Fit.l43.u) (fun _ _ h => h) (call := D67) (lp := fun n => noL) (D67_ok hX) (fun n => noL_ok) (fun n v K => by kernel_rfl)
theorem spec_l15Fit.q10_ok : ∀ n v K, spec_l15Fit.q10.u n v K → loopM C X0 n 74 1000010 (spec_l15Fit.q10.s.fill v) K :=
 cut_tell hX (fn := Try.f74) (c := bodyOf Try.f74) (a := cutOf Try.f74 10) (li := liOf (C.fi 74).loops 1000010) (by kernel_rfl) (by kernel_rfl) (of_decide_eq_true rfl) (by kernel_rfl) (by kernel_rfl) (T := spec_l15Fit.q10.s) (u := spec_l15Fit.q10.u) (fun _ _ h => h) (call := D67) (lp := fun n => orL 34 spec_l15Fit.l34.s (spec_l15Fit.l34.u n) (orL 43 spec_l15Fit.l43.s (spec_l15Fit.l43.u n) (orL 1000016 spec_l15Fit.q16.s (spec_l15Fit.q16.u n) noL))) (D67_ok hX) (fun n => (orL_ok (spec_l15Fit.l34_ok hX n) (orL_ok (spec_l15Fit.l43_ok hX n) (orL_ok (spec_l15Fit.q16_ok hX n) noL_ok)))) (fun n v K => by kernel_rfl)
theorem spec_l15Fit_ok : ∀ n v K, spec_l15Fit.u n v K → callM C X0 n 74 (fillA spec_l15Fit.a v) K :=
 call_tell hX (fn := Try.f74) (c := bodyOf Try.f74) (by kernel_rfl) (by kernel_rfl) (A := spec_l15Fit.a) (u := spec_l15Fit.u) (fun _ _ h => h) (call := D67) (lp := fun n => orL 1000010 spec_l15Fit.q10.s (spec_l15Fit.q10.u n) noL) (D67_ok hX) (fun n => (orL_ok (spec_l15Fit.q10_ok hX n) noL_ok)) (fun n v K => by kernel_rfl)
def D68 (n : Nat) : CallF := orC 74 spec_l15Fit.a (spec_l15Fit.u n) (D67 n)
theorem D68_ok : ∀ n g a K, D68 n g a K → callM C X0 n g a K := fun n => orC_ok (spec_l15Fit_ok hX n) (D67_ok hX n)
end
end Go.Vsi
end

section
set_option linter.unusedVariables false
namespace Go.Vsi
open Go.Proofs
section
variable {X0 : CallF} (hX : CallF.Mono X0)
include hX
abbrev spec_Rules.a : List TS := [.c (.o (.dat 100 (.prod .str (.int .i64)))), .a [.o (.dat 129 (.prod (.int .i64) (.prod (.int .i64) (.prod (.int .i64) (.prod (.int .i64) (.prod (.int .i64) (.prod (.sl 148 (.int .u64)) (.sl 2 (.int .i64)))))))))], .c (.o (.int .i64))]
def spec_Rules.u (n : Nat) (v : VA spec_Rules.a) (K : RES → Prop) : Prop := spec_Rules.c n v.1 v.2.1.1 v.2.2.1 (fun r0 => K ⟨.c (.row ⟨2, .int .i64, r0, 99, none⟩), []⟩)
abbrev spec_Rules.l6.s : ST := ⟨[(2, .c (.o (.int .i64))), (4, .c (.o (.pbox 4 0))), (7, .c (.o (.own 224))), (8, .c (.o (.own 256))), (9, .c (.o (.int .i64)))], [⟨224, 2, .int .i64, 99⟩, ⟨256, 2, .int .i64, 0⟩], [⟨4, 33, [.o (.dat 129 (.prod (.int .i64) (.prod (.int .i64) (.prod (.int .i64) (.prod (.int .i64) (.prod (.int .i64) (.prod (.sl 148 (.int .u64)) (.sl 2 (.int .i64)))))))))], false⟩], [], []⟩
def spec_Rules.l6.u (n : Nat) (v : spec_Rules.l6.s.V) (K : X → St → Prop) : Prop := spec_Rules.l6 n v.1.1 v.2.1.2.1 v.2.2.1.1 v.1.2.2.2.2.1 v.2.1.1 (fun y0 => K (.exit 0) ⟨[(7, .c (.own 224))], [(224, ⟨2, .int .i64, y0, 99, none⟩)], [], [], []⟩)
theorem spec_Rules.l6_ok : ∀ n v K, spec_Rules.l6.u n v K → loopM C X0 n 21 6 (spec_Rules.l6.s.fill v) K :=
 loop_tell hX (fn := Try.f21) (c := bodyOf Try.f21) (a := loopOf Try.f21 6) (li := liOf (C.fi 21).loops 6) (by kernel_rfl) (by kernel_rfl) (of_decide_eq_true rfl) (by kernel_rfl) (by kernel_rfl) (T := spec_Rules.l6.s) (u := spec_Rules.l6.u) (fun _ _ h => h) (call := D68) (lp := fun n => noL) (D68_ok hX) (fun n => noL_ok) (fun n v K => by kernel_rfl)
theorem spec_Rules_ok : ∀ n v K, spec_Rules.u n v K → callM C X0 n 21 (fillA spec_Rules.a v) K :=
 call_tell hX (fn := Try.f21) (c := bodyOf Try.f21) (by kernel_rfl) (by kernel_rfl) (A := spec_Rules.a) (u := spec_Rules.u) (fun _ _ h => h) (call := D68) (lp := fun n => orL 6 spec_Rules.l6.s (spec_Rules.l6.u n) noL) (D68_ok hX) (fun n => (orL_ok (spec_Rules.l6_ok hX n) noL_ok)) (fun n v K => by kernel_rfl)
def D69 (n : Nat) : CallF := orC 21 spec_Rules.a (spec_Rules.u n) (D68 n)
theorem D69_ok : ∀ n g a K, D69 n g a K → callM C X0 n g a K := fun n => orC_ok (spec_Rules_ok hX n) (D68_ok hX n)
abbrev impl_writer_kid.a : List TS := [.c (.o (.pdat 113 (.prod (.sl 129 (.prod (.int .i64) (.prod (.int .i64) (.prod (.int .i64) (.prod (.int .i64) (.prod (.int .i64) (.prod (.sl 148 (.int .u64)) (.sl 2 (.int .i64))))))))) (.sl 2 (.int .i64))) 0)), .c (.o (.pdat 129 (.prod (.int .i64) (.prod (.int .i64) (.prod (.int .i64) (.prod (.int .i64) (.prod (.int .i64) (.prod (.sl 148 (.int .u64)) (.sl 2 (.int .i64)))))))) 0))]
def impl_writer_kid.u (n : Nat) (v : VA impl_writer_kid.a) (K : RES → Prop) : Prop := impl_writer_kid.c n v.1 v.2.1 (fun r0 => K ⟨.c (.pdat 129 (.prod (.int .i64) (.prod (.int .i64) (.prod (.int .i64) (.prod (.int .i64) (.prod (.int .i64) (.prod (.sl 148 (.int .u64)) (.sl 2 (.int .i64)))))))) r0 0), []⟩)
theorem impl_writer_kid_ok : ∀ n v K, impl_writer_kid.u n v K → callM C X0 n 137 (fillA impl_writer_kid.a v) K :=
 call_tell hX (fn := Try.f137) (c := bodyOf Try.f137) (by kernel_rfl) (by kernel_rfl) (A := impl_writer_kid.a) (u := impl_writer_kid.u) (fun _ _ h => h) (call := D69) (lp := fun n => noL) (D69_ok hX) (fun n => noL_ok) (fun n v K => by kernel_rfl)
def D70 (n : Nat) : CallF := orC 137 impl_writer_kid.a (impl_writer_kid.u n) (D69 n)
theorem D70_ok : ∀ n g a K, D70 n g a K → callM C X0 n g a K := fun n => orC_ok (impl_writer_kid_ok hX n) (D69_ok hX n)
abbrev impl_writer_catKid_1.a : List TS := [.c (.o (.int .i64)), .c (.o (.pdat 176 (.ptr 113 (.prod (.sl 129 (.prod (.int .i64) (.prod (.int .i64) (.prod (.int .i64) (.prod (.int .i64) (.prod (.int .i64) (.prod (.sl 148 (.int .u64)) (.sl 2 (.int .i64))))))))) (.sl 2 (.int .i64)))) 0))]
def impl_writer_catKid_1.u (n : Nat) (v : VA impl_writer_catKid_1.a) (K : RES → Prop) : Prop := impl_writer_catKid_1.c n v.1 v.2.1 (fun r0 => K ⟨.c (.bool r0), []⟩)
theorem impl_writer_catKid_1_ok : ∀ n v K, impl_writer_catKid_1.u n v K → callM C X0 n 178 (fillA impl_writer_catKid_1.a v) K :=
 call_tell hX (fn := Try.f178) (c := bodyOf Try.f178) (by kernel_rfl) (by kernel_rfl) (A := impl_writer_catKid_1.a) (u := impl_writer_catKid_1.u) (fun _ _ h => h) (call := D70) (lp := fun n => noL) (D70_ok hX) (fun n => noL_ok) (fun n v K => by kernel_rfl)
def D71 (n : Nat) : CallF := orC 178 impl_writer_catKid_1.a (impl_writer_catKid_1.u n) (D70 n)
theorem D71_ok : ∀ n g a K, D71 n g a K → callM C X0 n g a K := fun n => orC_ok (impl_writer_catKid_1_ok hX n) (D70_ok hX n)
abbrev slices_IndexFunc_int64__impl_writer_catKid_1.a : List TS := [.c (.o (.dat 2 (.int .i64))), .c (.fn 178 [(false, 1)] 0 [.pdat 176 (.ptr 113 (.prod (.sl 129 (.prod (.int .i64) (.prod (.int .i64) (.prod (.int .i64) (.prod (.int .i64) (.prod (.int .i64) (.prod (.sl 148 (.int .u64)) (.sl 2 (.int .i64))))))))) (.sl 2 (.int .i64)))) 0])]
def slices_IndexFunc_int64__impl_writer_catKid_1.u (n : Nat) (v : VA slices_IndexFunc_int64__impl_writer_catKid_1.a) (K : RES → Prop) : Prop := slices_IndexFunc_int64__impl_writer_catKid_1.c n v.1 v.2.1.1 (fun r0 => K ⟨.c (.int .i64 r0), []⟩)
abbrev slices_IndexFunc_int64__impl_writer_catKid_1.l2.s : ST := ⟨[(0, .c (.o (.dat 2 (.int .i64)))), (1, .c (.fn 178 [(false, 1)] 0 [.pdat 176 (.ptr 113 (.prod (.sl 129 (.prod (.int .i64) (.prod (.int .i64) (.prod (.int .i64) (.prod (.int .i64) (.prod (.int .i64) (.prod (.sl 148 (.int .u64)) (.sl 2 (.int .i64))))))))) (.sl 2 (.int .i64)))) 0])), (7, .c (.o (.int .i64))), (8, .c (.o (.int .i64)))], [], [], [], []⟩
def slices_IndexFunc_int64__impl_writer_catKid_1.l2.u (n : Nat) (v : slices_IndexFunc_int64__impl_writer_catKid_1.l2.s.V) (K : X → St → Prop) : Prop := slices_IndexFunc_int64__impl_writer_catKid_1.l2 n v.1.1 v.1.2.1.1 v.1.2.2.1 v.1.2.2.2.1 (K (.exit 0) ⟨[], [], [], [], []⟩) (fun y0 => K .ret ⟨[(4, .c (.int .i64 y0))], [], [], [], []⟩)
theorem slices_IndexFunc_int64__impl_writer_catKid_1.l2_ok : ∀ n v K, slices_IndexFunc_int64__impl_writer_catKid_1.l2.u n v K → loopM C X0 n 177 2 (slices_IndexFunc_int64__impl_writer_catKid_1.l2.s.fill v) K :=
 loop_tell hX (fn := Try.f177) (c := bodyOf Try.f177) (a := loopOf Try.f177 2) (li := liOf (C.fi 177).loops 2) (by kernel_rfl) (by kernel_rfl) (of_decide_eq_true rfl) (by kernel_rfl) (by kernel_rfl) (T := slices_IndexFunc_int64__impl_writer_catKid_1.l2.s) (u := slices_IndexFunc_int64__impl_writer_catKid_1.l2.u) (fun _ _ h => h) (call := D71) (lp := fun n => noL) (D71_ok hX) (fun n => noL_ok) (fun n v K => by kernel_rfl)
theorem slices_IndexFunc_int64__impl_writer_catKid_1_ok : ∀ n v K, slices_IndexFunc_int64__impl_writer_catKid_1.u n v K → callM C X0 n 177 (fillA slices_IndexFunc_int64__impl_writer_catKid_1.a v) K :=
 call_tell hX (fn := Try.f177) (c := bodyOf Try.f177) (by kernel_rfl) (by kernel_rfl) (A := slices_IndexFunc_int64__impl_writer_catKid_1.a) (u := slices_IndexFunc_int64__impl_writer_catKid_1.u) (fun _ _ h => h) (call := D71) (lp := fun n => orL 2 slices_IndexFunc_int64__impl_writer_catKid_1.l2.s (slices_IndexFunc_int64__impl_writer_catKid_1.l2.u n) noL) (D71_ok hX) (fun n => (orL_ok (slices_IndexFunc_int64__impl_writer_catKid_1.l2_ok hX n) noL_ok)) (fun n v K => by kernel_rfl)
def D72 (n : Nat) : CallF := orC 177 slices_IndexFunc_int64__impl_writer_catKid_1.a (slices_IndexFunc_int64__impl_writer_catKid_1.u n) (D71 n)
theorem D72_ok : ∀ n g a K, D72 n g a K → callM C X0 n g a K := fun n => orC_ok (slices_IndexFunc_int64__impl_writer_catKid_1_ok hX n) (D71_ok hX n)
abbrev impl_writer_catKid.a : List TS := [.c (.o (.pdat 113 (.prod (.sl 129 (.prod (.int .i64) (.prod (.int .i64) (.prod (.int .i64) (.prod (.int .i64) (.prod (.int .i64) (.prod (.sl 148 (.int .u64)) (.sl 2 (.int .i64))))))))) (.sl 2 (.int .i64))) 0)), .c (.o (.pdat 129 (.prod (.int .i64) (.prod (.int .i64) (.prod (.int .i64) (.prod (.int .i64) (.prod (.int .i64) (.prod (.sl 148 (.int .u64)) (.sl 2 (.int .i64)))))))) 0))]
def impl_writer_catKid.u (n : Nat) (v : VA impl_writer_catKid.a) (K : RES → Prop) : Prop := impl_writer_catKid.c n v.1 v.2.1 (fun r0 => K ⟨.c (.int .i64 r0), []⟩)
theorem impl_writer_catKid_ok : ∀ n v K, impl_writer_catKid.u n v K → callM C X0 n 138 (fillA impl_writer_catKid.a v) K :=
 call_tell hX (fn := Try.f138) (c := bodyOf Try.f138) (by kernel_rfl) (by kernel_rfl) (A := impl_writer_catKid.a) (u := impl_writer_catKid.u) (fun _ _ h => h) (call := D72) (lp := fun n => noL) (D72_ok hX) (fun n => noL_ok) (fun n v K => by kernel_rfl)
def D73 (n : Nat) : CallF := orC 138 impl_writer_catKid.a (impl_writer_catKid.u n) (D72 n)
theorem D73_ok : ∀ n g a K, D73 n g a K → callM C X0 n g a K := fun n => orC_ok (impl_writer_catKid_ok hX n) (D72_ok hX n)
abbrev impl_writer_fits_1.a : List TS := [.c (.o (.int .i64)), .c (.o (.pdat 176 (.ptr 113 (.prod (.sl 129 (.prod (.int .i64) (.prod (.int .i64) (.prod (.int .i64) (.prod (.int .i64) (.prod (.int .i64) (.prod (.sl 148 (.int .u64)) (.sl 2 (.int .i64))))))))) (.sl 2 (.int .i64)))) 0))]
def impl_writer_fits_1.u (n : Nat) (v : VA impl_writer_fits_1.a) (K : RES → Prop) : Prop := impl_writer_fits_1.c n v.1 v.2.1 (fun r0 => K ⟨.c (.bool r0), []⟩)
theorem impl_writer_fits_1_ok : ∀ n v K, impl_writer_fits_1.u n v K → callM C X0 n 140 (fillA impl_writer_fits_1.a v) K :=
 call_tell hX (fn := Try.f140) (c := bodyOf Try.f140) (by kernel_rfl) (by kernel_rfl) (A := impl_writer_fits_1.a) (u := impl_writer_fits_1.u) (fun _ _ h => h) (call := D73) (lp := fun n => noL) (D73_ok hX) (fun n => noL_ok) (fun n v K => by kernel_rfl)
def D74 (n : Nat) : CallF := orC 140 impl_writer_fits_1.a (impl_writer_fits_1.u n) (D73 n)
theorem D74_ok : ∀ n g a K, D74 n g a K → callM C X0 n g a K := fun n => orC_ok (impl_writer_fits_1_ok hX n) (D73_ok hX n)
abbrev slices_IndexFunc_int64__impl_writer_fits_1.a : List TS := [.c (.o (.dat 2 (.int .i64))), .c (.fn 140 [(false, 1)] 0 [.pdat 176 (.ptr 113 (.prod (.sl 129 (.prod (.int .i64) (.prod (.int .i64) (.prod (.int .i64) (.prod (.int .i64) (.prod (.int .i64) (.prod (.sl 148 (.int .u64)) (.sl 2 (.int .i64))))))))) (.sl 2 (.int .i64)))) 0])]
def slices_IndexFunc_int64__impl_writer_fits_1.u (n : Nat) (v : VA slices_IndexFunc_int64__impl_writer_fits_1.a) (K : RES → Prop) : Prop := slices_IndexFunc_int64__impl_writer_fits_1.c n v.1 v.2.1.1 (fun r0 => K ⟨.c (.int .i64 r0), []⟩)
abbrev slices_IndexFunc_int64__impl_writer_fits_1.l2.s : ST := ⟨[(0, .c (.o (.dat 2 (.int .i64)))), (1, .c (.fn 140 [(false, 1)] 0 [.pdat 176 (.ptr 113 (.prod (.sl 129 (.prod (.int .i64) (.prod (.int .i64) (.prod (.int .i64) (.prod (.int .i64) (.prod (.int .i64) (.prod (.sl 148 (.int .u64)) (.sl 2 (.int .i64))))))))) (.sl 2 (.int .i64)))) 0])), (7, .c (.o (.int .i64))), (8, .c (.o (.int .i64)))], [], [], [], []⟩
def slices_IndexFunc_int64__impl_writer_fits_1.l2.u (n : Nat) (v : slices_IndexFunc_int64__impl_writer_fits_1.l2.s.V) (K : X → St → Prop) : Prop := slices_IndexFunc_int64__impl_writer_fits_1.l2 n v.1.1 v.1.2.1.1 v.1.2.2.1 v.1.2.2.2.1 (K (.exit 0) ⟨[], [], [], [], []⟩) (fun y0 => K .ret ⟨[(4, .c (.int .i64 y0))], [], [], [], []⟩)
theorem slices_IndexFunc_int64__impl_writer_fits_1.l2_ok : ∀ n v K, slices_IndexFunc_int64__impl_writer_fits_1.l2.u n v K → loopM C X0 n 177 2 (slices_IndexFunc_int64__impl_writer_fits_1.l2.s.fill v) K :=
 loop_tell hX (fn := Try.f177) (c := bodyOf Try.f177) (a := loopOf Try.f177 2) (li := liOf (C.fi 177).loops 2) (by kernel_rfl) (by kernel_rfl) (of_decide_eq_true rfl) (by kernel_rfl) (by kernel_rfl) (T := slices_IndexFunc_int64__impl_writer_fits_1.l2.s) (u := slices_IndexFunc_int64__impl_writer_fits_1.l2.u) (fun _ _ h => h) (call := D74) (lp := fun n => noL) (D74_ok hX) (fun n => noL_ok) (fun n v K => by kernel_rfl)
theorem slices_IndexFunc_int64__impl_writer_fits_1_ok : ∀ n v K, slices_IndexFunc_int64__impl_writer_fits_1.u n v K → callM C X0 n 177 (fillA slices_IndexFunc_int64__impl_writer_fits_1.a v) K :=
 call_tell hX (fn := Try.f177) (c := bodyOf Try.f177) (by kernel_rfl) (by kernel_rfl) (A := slices_IndexFunc_int64__impl_writer_fits_1.a) (u := slices_IndexFunc_int64__impl_writer_fits_1.u) (fun _ _ h => h) (call := D74) (lp := fun n => orL 2 slices_IndexFunc_int64__impl_writer_fits_1.l2.s (slices_IndexFunc_int64__impl_writer_fits_1.l2.u n) noL) (D74_ok hX) (fun n => (orL_ok (slices_IndexFunc_int64__impl_writer_fits_1.l2_ok hX n) noL_ok)) (fun n v K => by kernel_rfl)
def D75 (n : Nat) : CallF := orC 177 slices_IndexFunc_int64__impl_writer_fits_1.a (slices_IndexFunc_int64__impl_writer_fits_1.u n) (D74 n)
theorem D75_ok : ∀ n g a K, D75 n g a K → callM C X0 n g a K := fun n => orC_ok (slices_IndexFunc_int64__impl_writer_fits_1_ok hX n) (D74_ok hX n)
abbrev slices_ContainsFunc_int64__impl_writer_fits_1.a : List TS := [.c (.o (.dat 2 (.int .i64))), .c (.fn 140 [(false, 1)] 0 [.pdat 176 (.ptr 113 (.prod (.sl 129 (.prod (.int .i64) (.prod (.int .i64) (.prod (.int .i64) (.prod (.int .i64) (.prod (.int .i64) (.prod (.sl 148 (.int .u64)) (.sl 2 (.int .i64))))))))) (.sl 2 (.int .i64)))) 0])]
def slices_ContainsFunc_int64__impl_writer_fits_1.u (n : Nat) (v : VA slices_ContainsFunc_int64__impl_writer_fits_1.a) (K : RES → Prop) : Prop := slices_ContainsFunc_int64__impl_writer_fits_1.c n v.1 v.2.1.1 (fun r0 => K ⟨.c (.bool r0), []⟩)
theorem slices_ContainsFunc_int64__impl_writer_fits_1_ok : ∀ n v K, slices_ContainsFunc_int64__impl_writer_fits_1.u n v K → callM C X0 n 139 (fillA slices_ContainsFunc_int64__impl_writer_fits_1.a v) K :=
 call_tell hX (fn := Try.f139) (c := bodyOf Try.f139) (by kernel_rfl) (by kernel_rfl) (A := slices_ContainsFunc_int64__impl_writer_fits_1.a) (u := slices_ContainsFunc_int64__impl_writer_fits_1.u) (fun _ _ h => h) (call := D75) (lp := fun n => noL) (D75_ok hX) (fun n => noL_ok) (fun n v K => by kernel_rfl)
def D76 (n : Nat) : CallF := orC 139 slices_ContainsFunc_int64__impl_writer_fits_1.a (slices_ContainsFunc_int64__impl_writer_fits_1.u n) (D75 n)
theorem D76_ok : ∀ n g a K, D76 n g a K → callM C X0 n g a K := fun n => orC_ok (slices_ContainsFunc_int64__impl_writer_fits_1_ok hX n) (D75_ok hX n)
abbrev impl_writer_within.a : List TS := [.c (.o (.pdat 113 (.prod (.sl 129 (.prod (.int .i64) (.prod (.int .i64) (.prod (.int .i64) (.prod (.int .i64) (.prod (.int .i64) (.prod (.sl 148 (.int .u64)) (.sl 2 (.int .i64))))))))) (.sl 2 (.int .i64))) 0)), .c (.o (.pdat 129 (.prod (.int .i64) (.prod (.int .i64) (.prod (.int .i64) (.prod (.int .i64) (.prod (.int .i64) (.prod (.sl 148 (.int .u64)) (.sl 2 (.int .i64)))))))) 0)), .c (.o (.int .i64)), .c (.o (.int .i64))]
def impl_writer_within.u (n : Nat) (v : VA impl_writer_within.a) (K : RES → Prop) : Prop := impl_writer_within.c n v.1 v.2.1 v.2.2.1 v.2.2.2.1 (fun r0 r1 r2 => K ⟨.tup [.c (.int .i64 r0), .c (.int .i64 r1), .c (.bool r2)], []⟩)
abbrev impl_writer_within.l3.s : ST := ⟨[(0, .c (.o (.pdat 113 (.prod (.sl 129 (.prod (.int .i64) (.prod (.int .i64) (.prod (.int .i64) (.prod (.int .i64) (.prod (.int .i64) (.prod (.sl 148 (.int .u64)) (.sl 2 (.int .i64))))))))) (.sl 2 (.int .i64))) 0))), (1, .c (.o (.pdat 129 (.prod (.int .i64) (.prod (.int .i64) (.prod (.int .i64) (.prod (.int .i64) (.prod (.int .i64) (.prod (.sl 148 (.int .u64)) (.sl 2 (.int .i64)))))))) 0))), (2, .c (.o (.int .i64))), (3, .c (.o (.int .i64))), (11, .c (.o (.int .i64))), (12, .c (.o (.int .i64)))], [], [], [], []⟩
def impl_writer_within.l3.u (n : Nat) (v : impl_writer_within.l3.s.V) (K : X → St → Prop) : Prop := impl_writer_within.l3 n v.1.1 v.1.2.1 v.1.2.2.1 v.1.2.2.2.1 v.1.2.2.2.2.1 v.1.2.2.2.2.2.1 (K (.exit 0) ⟨[], [], [], [], []⟩) (fun y0 y1 y2 => K .ret ⟨[(8, .c (.int .i64 y0)), (9, .c (.int .i64 y1)), (10, .c (.bool y2))], [], [], [], []⟩)
theorem impl_writer_within.l3_ok : ∀ n v K, impl_writer_within.l3.u n v K → loopM C X0 n 141 3 (impl_writer_within.l3.s.fill v) K :=
 loop_tell hX (fn := Try.f141) (c := bodyOf Try.f141) (a := loopOf Try.f141 3) (li := liOf (C.fi 141).loops 3) (by kernel_rfl) (by kernel_rfl) (of_decide_eq_true rfl) (by kernel_rfl) (by kernel_rfl) (T := impl_writer_within.l3.s) (u := impl_writer_within.l3.u) (fun _ _ h => h) (call := D76) (lp := fun n => noL) (D76_ok hX) (fun n => noL_ok) (fun n v K => by kernel_rfl)
theorem impl_writer_within_ok : ∀ n v K, impl_writer_within.u n v K → callM C X0 n 141 (fillA impl_writer_within.a v) K :=
 call_tell hX (fn := Try.f141) (c := bodyOf Try.f141) (by kernel_rfl) (by kernel_rfl) (A := impl_writer_within.a) (u := impl_writer_within.u) (fun _ _ h => h) (call := D76) (lp := fun n => orL 3 impl_writer_within.l3.s (impl_writer_within.l3.u n) noL) (D76_ok hX) (fun n => (orL_ok (impl_writer_within.l3_ok hX n) noL_ok)) (fun n v K => by kernel_rfl)
def D77 (n : Nat) : CallF := orC 141 impl_writer_within.a (impl_writer_within.u n) (D76 n)
theorem D77_ok : ∀ n g a K, D77 n g a K → callM C X0 n g a K := fun n => orC_ok (impl_writer_within_ok hX n) (D76_ok hX n)
abbrev impl_writer_fits.a : List TS := [.c (.o (.pdat 113 (.prod (.sl 129 (.prod (.int .i64) (.prod (.int .i64) (.prod (.int .i64) (.prod (.int .i64) (.prod (.int .i64) (.prod (.sl 148 (.int .u64)) (.sl 2 (.int .i64))))))))) (.sl 2 (.int .i64))) 0)), .c (.o (.int .i64)), .c (.o (.int .i64))]
def impl_writer_fits.u (n : Nat) (v : VA impl_writer_fits.a) (K : RES → Prop) : Prop := impl_writer_fits.c n v.1 v.2.1 v.2.2.1 (fun r0 => K ⟨.c (.bool r0), []⟩)
theorem impl_writer_fits_ok : ∀ n v K, impl_writer_fits.u n v K → callM C X0 n 78 (fillA impl_writer_fits.a v) K :=
 call_tell hX (fn := Try.f78) (c := bodyOf Try.f78) (by kernel_rfl) (by kernel_rfl) (A := impl_writer_fits.a) (u := impl_writer_fits.u) (fun _ _ h => h) (call := D77) (lp := fun n => noL) (D77_ok hX) (fun n => noL_ok) (fun n v K => by kernel_rfl)
def D78 (n : Nat) : CallF := orC 78 impl_writer_fits.a (impl_writer_fits.u n) (D77 n)
theorem D78_ok : ∀ n g a K, D78 n g a K → callM C X0 n g a K := fun n => orC_ok (impl_writer_fits_ok hX n) (D77_ok hX n)
abbrev impl_Rules.a : List TS := [.c (.o (.dat 100 (.prod .str (.int .i64)))), .a [.o (.dat 129 (.prod (.int .i64) (.prod (.int .i64) (.prod (.int .i64) (.prod (.int .i64) (.prod (.int .i64) (.prod (.sl 148 (.int .u64)) (.sl 2 (.int .i64)))))))))], .c (.o (.int .i64))]
def impl_Rules.u (n : Nat) (v : VA impl_Rules.a) (K : RES → Prop) : Prop := impl_Rules.c n v.1 v.2.1.1 v.2.2.1 (fun r0 => K ⟨.c (.row ⟨2, .int .i64, r0, 99, none⟩), []⟩)
abbrev impl_Rules.l9.s : ST := ⟨[(2, .c (.o (.int .i64))), (9, .c (.o (.pbox 9 0))), (10, .c (.o (.own 320))), (11, .c (.o (.int .i64)))], [⟨320, 2, .int .i64, 99⟩, ⟨576, 2, .int .i64, 99⟩], [⟨9, 113, [.o (.dat 129 (.prod (.int .i64) (.prod (.int .i64) (.prod (.int .i64) (.prod (.int .i64) (.prod (.int .i64) (.prod (.sl 148 (.int .u64)) (.sl 2 (.int .i64))))))))), .o (.own 576)], false⟩], [], []⟩
def impl_Rules.l9.u (n : Nat) (v : impl_Rules.l9.s.V) (K : X → St → Prop) : Prop := impl_Rules.l9 n v.1.1 v.2.1.2.1 v.2.2.1.1 v.1.2.2.2.1 v.2.1.1 (fun y0 => K (.exit 0) ⟨[(10, .c (.own 320))], [(320, ⟨2, .int .i64, y0, 99, none⟩)], [], [], []⟩)
theorem impl_Rules.l9_ok : ∀ n v K, impl_Rules.l9.u n v K → loopM C X0 n 22 9 (impl_Rules.l9.s.fill v) K :=
 loop_tell hX (fn := Try.f22) (c := bodyOf Try.f22) (a := loopOf Try.f22 9) (li := liOf (C.fi 22).loops 9) (by kernel_rfl) (by kernel_rfl) (of_decide_eq_true rfl) (by kernel_rfl) (by kernel_rfl) (T := impl_Rules.l9.s) (u := impl_Rules.l9.u) (fun _ _ h => h) (call := D78) (lp := fun n => noL) (D78_ok hX) (fun n => noL_ok) (fun n v K => by kernel_rfl)
theorem impl_Rules_ok : ∀ n v K, impl_Rules.u n v K → callM C X0 n 22 (fillA impl_Rules.a v) K :=
 call_tell hX (fn := Try.f22) (c := bodyOf Try.f22) (by kernel_rfl) (by kernel_rfl) (A := impl_Rules.a) (u := impl_Rules.u) (fun _ _ h => h) (call := D78) (lp := fun n => orL 9 impl_Rules.l9.s (impl_Rules.l9.u n) noL) (D78_ok hX) (fun n => (orL_ok (impl_Rules.l9_ok hX n) noL_ok)) (fun n v K => by kernel_rfl)
def D79 (n : Nat) : CallF := orC 22 impl_Rules.a (impl_Rules.u n) (D78 n)
theorem D79_ok : ∀ n g a K, D79 n g a K → callM C X0 n g a K := fun n => orC_ok (impl_Rules_ok hX n) (D78_ok hX n)
abbrev laws_markInt64S_1.a : List TS := [.c (.o (.row 2 (.int .i64) 99)), .c (.o (.int .i64))]
def laws_markInt64S_1.u (n : Nat) (v : VA laws_markInt64S_1.a) (K : RES → Prop) : Prop := laws_markInt64S_1.c n v.1 v.2.1 (fun r0 r1 => K ⟨.c (.int .i64 r0), [[.row ⟨2, .int .i64, r1, 99, none⟩]]⟩)
abbrev laws_markInt64S_1.l2.s : ST := ⟨[(0, .c (.o (.own 0))), (1, .c (.o (.int .i64))), (5, .c (.o (.int .i64)))], [⟨0, 2, .int .i64, 99⟩], [], [0], []⟩
def laws_markInt64S_1.l2.u (n : Nat) (v : laws_markInt64S_1.l2.s.V) (K : X → St → Prop) : Prop := laws_markInt64S_1.l2 n v.1.2.1 v.1.2.2.1 v.2.1.1 (fun y0 y1 => K (.exit 0) ⟨[(1, .c (.int .i64 y0))], [(0, ⟨2, .int .i64, y1, 99, none⟩)], [], [0], []⟩)
theorem laws_markInt64S_1.l2_ok : ∀ n v K, laws_markInt64S_1.l2.u n v K → loopM C X0 n 26 2 (laws_markInt64S_1.l2.s.fill v) K :=
 loop_tell hX (fn := Try.f26) (c := bodyOf Try.f26) (a := loopOf Try.f26 2) (li := liOf (C.fi 26).loops 2) (by kernel_rfl) (by kernel_rfl) (of_decide_eq_true rfl) (by kernel_rfl) (by kernel_rfl) (T := laws_markInt64S_1.l2.s) (u := laws_markInt64S_1.l2.u) (fun _ _ h => h) (call := D79) (lp := fun n => noL) (D79_ok hX) (fun n => noL_ok) (fun n v K => by kernel_rfl)
theorem laws_markInt64S_1_ok : ∀ n v K, laws_markInt64S_1.u n v K → callM C X0 n 26 (fillA laws_markInt64S_1.a v) K :=
 call_tell hX (fn := Try.f26) (c := bodyOf Try.f26) (by kernel_rfl) (by kernel_rfl) (A := laws_markInt64S_1.a) (u := laws_markInt64S_1.u) (fun _ _ h => h) (call := D79) (lp := fun n => orL 2 laws_markInt64S_1.l2.s (laws_markInt64S_1.l2.u n) noL) (D79_ok hX) (fun n => (orL_ok (laws_markInt64S_1.l2_ok hX n) noL_ok)) (fun n v K => by kernel_rfl)
def D80 (n : Nat) : CallF := orC 26 laws_markInt64S_1.a (laws_markInt64S_1.u n) (D79 n)
theorem D80_ok : ∀ n g a K, D80 n g a K → callM C X0 n g a K := fun n => orC_ok (laws_markInt64S_1_ok hX n) (D79_ok hX n)
abbrev laws_heldInt64S.a : List TS := [.c (.o (.dat 2 (.int .i64))), .c (.o (.int .i64))]
def laws_heldInt64S.u (n : Nat) (v : VA laws_heldInt64S.a) (K : RES → Prop) : Prop := laws_heldInt64S.c n v.1 v.2.1 (fun r0 => K ⟨.c (.int .i64 r0), []⟩)
abbrev laws_heldInt64S.l2.s : ST := ⟨[(0, .c (.o (.dat 2 (.int .i64)))), (1, .c (.o (.int .i64))), (5, .c (.o (.int .i64)))], [], [], [], []⟩
def laws_heldInt64S.l2.u (n : Nat) (v : laws_heldInt64S.l2.s.V) (K : X → St → Prop) : Prop := laws_heldInt64S.l2 n v.1.1 v.1.2.1 v.1.2.2.1 (fun y0 => K (.exit 0) ⟨[(1, .c (.int .i64 y0))], [], [], [], []⟩) (fun y0 => K .ret ⟨[(4, .c (.int .i64 y0))], [], [], [], []⟩)
theorem laws_heldInt64S.l2_ok : ∀ n v K, laws_heldInt64S.l2.u n v K → loopM C X0 n 27 2 (laws_heldInt64S.l2.s.fill v) K :=
 loop_tell hX (fn := Try.f27) (c := bodyOf Try.f27) (a := loopOf Try.f27 2) (li := liOf (C.fi 27).loops 2) (by kernel_rfl) (by kernel_rfl) (of_decide_eq_true rfl) (by kernel_rfl) (by kernel_rfl) (T := laws_heldInt64S.l2.s) (u := laws_heldInt64S.l2.u) (fun _ _ h => h) (call := D80) (lp := fun n => noL) (D80_ok hX) (fun n => noL_ok) (fun n v K => by kernel_rfl)
theorem laws_heldInt64S_ok : ∀ n v K, laws_heldInt64S.u n v K → callM C X0 n 27 (fillA laws_heldInt64S.a v) K :=
 call_tell hX (fn := Try.f27) (c := bodyOf Try.f27) (by kernel_rfl) (by kernel_rfl) (A := laws_heldInt64S.a) (u := laws_heldInt64S.u) (fun _ _ h => h) (call := D80) (lp := fun n => orL 2 laws_heldInt64S.l2.s (laws_heldInt64S.l2.u n) noL) (D80_ok hX) (fun n => (orL_ok (laws_heldInt64S.l2_ok hX n) noL_ok)) (fun n v K => by kernel_rfl)
def D81 (n : Nat) : CallF := orC 27 laws_heldInt64S.a (laws_heldInt64S.u n) (D80 n)
theorem D81_ok : ∀ n g a K, D81 n g a K → callM C X0 n g a K := fun n => orC_ok (laws_heldInt64S_ok hX n) (D80_ok hX n)
abbrev laws_FnExactRules.a : List TS := [.c (.o (.dat 98 (.prod .str (.int .i64)))), .a [.o (.dat 157 (.prod (.int .i64) (.prod (.int .i64) (.prod (.int .i64) (.prod (.int .i64) (.prod (.int .i64) (.prod (.sl 148 (.int .u64)) (.sl 2 (.int .i64)))))))))], .c (.o (.int .i64))]
def laws_FnExactRules.u (n : Nat) (v : VA laws_FnExactRules.a) (K : RES → Prop) : Prop := laws_FnExactRules.c n v.1 v.2.1.1 v.2.2.1 (fun r0 => K ⟨.c (.bool r0), []⟩)
abbrev laws_FnExactRules.q18.s : ST := ⟨[(0, .c (.o (.dat 98 (.prod .str (.int .i64))))), (2, .c (.o (.int .i64))), (4, .c (.o (.pbox 4 0))), (8, .c (.o (.own 992))), (9, .c (.o (.own 1056))), (10, .c (.o (.pbox 10 0))), (11, .c (.o (.own 1248)))], [⟨992, 2, .int .i64, 99⟩, ⟨1056, 100, .prod .str (.int .i64), 99⟩, ⟨1120, 129, .prod (.int .i64) (.prod (.int .i64) (.prod (.int .i64) (.prod (.int .i64) (.prod (.int .i64) (.prod (.sl 148 (.int .u64)) (.sl 2 (.int .i64))))))), 99⟩, ⟨1248, 2, .int .i64, 99⟩], [⟨4, 25, [.o (.dat 157 (.prod (.int .i64) (.prod (.int .i64) (.prod (.int .i64) (.prod (.int .i64) (.prod (.int .i64) (.prod (.sl 148 (.int .u64)) (.sl 2 (.int .i64)))))))))], false⟩, ⟨10, 33, [.o (.own 1120)], false⟩], [], []⟩
def laws_FnExactRules.q18.u (n : Nat) (v : laws_FnExactRules.q18.s.V) (K : X → St → Prop) : Prop := laws_FnExactRules.q18 n v.1.1 v.1.2.1 v.2.1.1 v.2.1.2.1 v.2.1.2.2.1 v.2.1.2.2.2.1 v.2.2.1.1 (fun y0 => K .ret ⟨[(6, .c (.bool y0))], [], [], [], []⟩)
theorem laws_FnExactRules.q18_ok : ∀ n v K, laws_FnExactRules.q18.u n v K → loopM C X0 n 4 1000018 (laws_FnExactRules.q18.s.fill v) K :=
 cut_tell hX (fn := Try.f4) (c := bodyOf Try.f4) (a := cutOf Try.f4 18) (li := liOf (C.fi 4).loops 1000018) (by kernel_rfl) (by kernel_rfl) (of_decide_eq_true rfl) (by kernel_rfl) (by kernel_rfl) (T := laws_FnExactRules.q18.s) (u := laws_FnExactRules.q18.u) (fun _ _ h => h) (call := D81) (lp := fun n => noL) (D81_ok hX) (fun n => noL_ok) (fun n v K => by kernel_rfl)
theorem laws_FnExactRules_ok : ∀ n v K, laws_FnExactRules.u n v K → callM C X0 n 4 (fillA laws_FnExactRules.a v) K :=
 call_tell hX (fn := Try.f4) (c := bodyOf Try.f4) (by kernel_rfl) (by kernel_rfl) (A := laws_FnExactRules.a) (u := laws_FnExactRules.u) (fun _ _ h => h) (call := D81) (lp := fun n => orL 1000018 laws_FnExactRules.q18.s (laws_FnExactRules.q18.u n) noL) (D81_ok hX) (fun n => (orL_ok (laws_FnExactRules.q18_ok hX n) noL_ok)) (fun n v K => by kernel_rfl)
def D82 (n : Nat) : CallF := orC 4 laws_FnExactRules.a (laws_FnExactRules.u n) (D81 n)
theorem D82_ok : ∀ n g a K, D82 n g a K → callM C X0 n g a K := fun n => orC_ok (laws_FnExactRules_ok hX n) (D81_ok hX n)
end
end Go.Vsi
end
