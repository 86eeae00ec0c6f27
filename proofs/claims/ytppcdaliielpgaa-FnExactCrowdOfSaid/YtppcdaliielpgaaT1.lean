/- Each told function is what the machine comes to. No statement is proved here. -/
import Derived.Test.YtppcdaliielpgaaM3
import Derived.Test.YtppcdaliielpgaaA1
import Derived.Test.YtppcdaliielpgaaProg
import Derived.KernelRfl

section
set_option linter.unusedVariables false
namespace Go.Vsi
open Go.Proofs
def tis : List (Nat × TI) := [
(1, ⟨false, 1, 8, [.undef], none, none, []⟩),
(2, ⟨false, 1, 8, [.int .i64 0], some (.int .i64), none, []⟩),
(3, ⟨false, 1, 8, [.int .i64 0], some (.int .i64), none, []⟩),
(4, ⟨false, 1, 1, [.bool false], some (.bool), none, []⟩),
(5, ⟨false, 1, 1, [.int .u8 0], some (.int .u8), none, []⟩),
(6, ⟨false, 1, 1, [.int .u8 0], some (.int .u8), none, []⟩),
(7, ⟨true, 4, 24, [.int .i64 0, .int .i64 0, .bool false, .int .u8 0], some (.prod (.int .i64) (.prod (.int .i64) (.prod .bool (.int .u8)))), none, [(0, 2), (1, 3), (2, 4), (3, 6)]⟩),
(8, ⟨true, 4, 24, [.int .i64 0, .int .i64 0, .bool false, .int .u8 0], some (.prod (.int .i64) (.prod (.int .i64) (.prod .bool (.int .u8)))), none, [(0, 2), (1, 3), (2, 4), (3, 6)]⟩),
(9, ⟨false, 1, 16, [.str []], some (.str), none, []⟩),
(10, ⟨false, 1, 16, [.str []], some (.str), none, []⟩),
(11, ⟨false, 1, 16, [.str []], some (.str), none, []⟩),
(12, ⟨false, 1, 8, [.int .u64 0], some (.int .u64), none, []⟩),
(13, ⟨true, 2, 24, [.str [], .int .u64 0], some (.prod .str (.int .u64)), none, [(0, 9), (1, 12)]⟩),
(14, ⟨true, 2, 24, [.str [], .int .u64 0], some (.prod .str (.int .u64)), none, [(0, 9), (1, 12)]⟩),
(15, ⟨false, 1, 8, [.undef], none, none, []⟩),
(16, ⟨false, 1, 8, [.undef], none, none, []⟩),
(17, ⟨false, 1, 8, [.undef], none, none, []⟩),
(18, ⟨true, 1, 8, [.undef], none, none, [(0, 17)]⟩),
(19, ⟨true, 1, 8, [.undef], none, none, [(0, 17)]⟩),
(20, ⟨false, 1, 16, [.undef], none, none, []⟩),
(21, ⟨false, 1, 4, [.int .i32 0], some (.int .i32), none, []⟩),
(22, ⟨false, 1, 24, [.emp 118 (.prod (.int .i64) (.prod (.int .i64) (.sl 201 (.prod (.int .i64) (.prod (.int .i64) (.prod (.int .i64) (.sl 155 (.int .u64))))))))], some (.sl 118 (.prod (.int .i64) (.prod (.int .i64) (.sl 201 (.prod (.int .i64) (.prod (.int .i64) (.prod (.int .i64) (.sl 155 (.int .u64))))))))), some 118, []⟩),
(23, ⟨false, 1, 8, [.undef], none, none, []⟩),
(24, ⟨false, 1, 24, [.emp 123 (.prod (.int .i64) (.prod (.int .i64) (.prod (.int .i64) (.sl 155 (.int .u64)))))], some (.sl 123 (.prod (.int .i64) (.prod (.int .i64) (.prod (.int .i64) (.sl 155 (.int .u64)))))), some 123, []⟩),
(25, ⟨false, 1, 8, [.undef], none, none, []⟩),
(26, ⟨false, 1, 24, [.emp 120 (.prod (.int .i64) (.prod (.int .i64) (.sl 123 (.prod (.int .i64) (.prod (.int .i64) (.prod (.int .i64) (.sl 155 (.int .u64))))))))], some (.sl 120 (.prod (.int .i64) (.prod (.int .i64) (.sl 123 (.prod (.int .i64) (.prod (.int .i64) (.prod (.int .i64) (.sl 155 (.int .u64))))))))), some 120, []⟩),
(27, ⟨false, 1, 8, [.undef], none, none, []⟩),
(28, ⟨false, 1, 8, [.undef], none, none, []⟩),
(29, ⟨false, 1, 8, [.undef], none, none, []⟩),
(30, ⟨false, 1, 8, [.undef], none, none, []⟩),
(31, ⟨false, 1, 8, [.undef], none, none, []⟩),
(32, ⟨false, 1, 8, [.undef], none, none, []⟩),
(33, ⟨false, 1, 24, [.emp 2 (.int .i64)], some (.sl 2 (.int .i64)), some 2, []⟩),
(34, ⟨false, 1, 24, [.emp 201 (.prod (.int .i64) (.prod (.int .i64) (.prod (.int .i64) (.sl 155 (.int .u64)))))], some (.sl 201 (.prod (.int .i64) (.prod (.int .i64) (.prod (.int .i64) (.sl 155 (.int .u64)))))), some 201, []⟩),
(35, ⟨true, 2, 48, [.emp 2 (.int .i64), .emp 201 (.prod (.int .i64) (.prod (.int .i64) (.prod (.int .i64) (.sl 155 (.int .u64)))))], some (.prod (.sl 2 (.int .i64)) (.sl 201 (.prod (.int .i64) (.prod (.int .i64) (.prod (.int .i64) (.sl 155 (.int .u64))))))), none, [(0, 33), (1, 34)]⟩),
(36, ⟨true, 2, 48, [.emp 2 (.int .i64), .emp 201 (.prod (.int .i64) (.prod (.int .i64) (.prod (.int .i64) (.sl 155 (.int .u64)))))], some (.prod (.sl 2 (.int .i64)) (.sl 201 (.prod (.int .i64) (.prod (.int .i64) (.prod (.int .i64) (.sl 155 (.int .u64))))))), none, [(0, 33), (1, 34)]⟩),
(37, ⟨false, 1, 24, [.emp 131 (.prod (.int .i64) (.sl 155 (.int .u64)))], some (.sl 131 (.prod (.int .i64) (.sl 155 (.int .u64)))), some 131, []⟩),
(38, ⟨false, 1, 8, [.undef], none, none, []⟩),
(39, ⟨false, 1, 8, [.undef], none, none, []⟩),
(40, ⟨false, 1, 8, [.undef], none, none, []⟩),
(41, ⟨true, 2, 48, [.emp 2 (.int .i64), .emp 123 (.prod (.int .i64) (.prod (.int .i64) (.prod (.int .i64) (.sl 155 (.int .u64)))))], some (.prod (.sl 2 (.int .i64)) (.sl 123 (.prod (.int .i64) (.prod (.int .i64) (.prod (.int .i64) (.sl 155 (.int .u64))))))), none, [(0, 33), (1, 24)]⟩),
(42, ⟨true, 2, 48, [.emp 2 (.int .i64), .emp 123 (.prod (.int .i64) (.prod (.int .i64) (.prod (.int .i64) (.sl 155 (.int .u64)))))], some (.prod (.sl 2 (.int .i64)) (.sl 123 (.prod (.int .i64) (.prod (.int .i64) (.prod (.int .i64) (.sl 155 (.int .u64))))))), none, [(0, 33), (1, 24)]⟩),
(43, ⟨false, 1, 8, [.undef], none, none, []⟩),
(44, ⟨false, 1, 24, [.emp 58 (.prod (.int .i64) (.sl 155 (.int .u64)))], some (.sl 58 (.prod (.int .i64) (.sl 155 (.int .u64)))), some 58, []⟩),
(45, ⟨false, 1, 8, [.undef], none, none, []⟩),
(46, ⟨false, 1, 8, [.undef], none, none, []⟩),
(47, ⟨false, 1, 8, [.undef], none, none, []⟩),
(48, ⟨false, 1, 8, [.undef], none, none, []⟩),
(49, ⟨false, 1, 24, [.emp 5 (.int .u8)], some (.sl 5 (.int .u8)), some 5, []⟩),
(50, ⟨false, 1, 8, [.undef], none, none, []⟩),
(52, ⟨false, 1, 8, [.undef], none, none, []⟩),
(54, ⟨false, 1, 8, [.undef], none, none, []⟩),
(55, ⟨false, 1, 8, [.int .u64 0], some (.int .u64), none, []⟩),
(56, ⟨false, 1, 24, [.emp 155 (.int .u64)], some (.sl 155 (.int .u64)), some 155, []⟩),
(57, ⟨true, 2, 32, [.int .i64 0, .emp 155 (.int .u64)], some (.prod (.int .i64) (.sl 155 (.int .u64))), none, [(0, 2), (1, 56)]⟩),
(58, ⟨true, 2, 32, [.int .i64 0, .emp 155 (.int .u64)], some (.prod (.int .i64) (.sl 155 (.int .u64))), none, [(0, 2), (1, 56)]⟩),
(60, ⟨false, 1, 8, [.undef], none, none, []⟩),
(61, ⟨false, 1, 24, [.emp 167 (.prod .str (.int .i64))], some (.sl 167 (.prod .str (.int .i64))), some 167, []⟩),
(63, ⟨false, 1, 8, [.undef], none, none, []⟩),
(65, ⟨false, 1, 8, [.undef], none, none, []⟩),
(66, ⟨false, 1, 8, [.undef], none, none, []⟩),
(67, ⟨false, 1, 8, [.undef], none, none, []⟩),
(68, ⟨false, 1, 8, [.undef], none, none, []⟩),
(69, ⟨false, 1, 8, [.undef], none, none, []⟩),
(70, ⟨false, 1, 8, [.undef], none, none, []⟩),
(71, ⟨false, 1, 8, [.undef], none, none, []⟩),
(72, ⟨false, 1, 24, [.emp 164 (.prod .str (.int .i64))], some (.sl 164 (.prod .str (.int .i64))), some 164, []⟩),
(73, ⟨false, 1, 24, [.emp 226 (.prod (.int .i64) (.prod (.int .i64) (.prod (.int .i64) (.prod (.int .i64) (.prod (.int .i64) (.prod (.sl 155 (.int .u64)) (.sl 2 (.int .i64))))))))], some (.sl 226 (.prod (.int .i64) (.prod (.int .i64) (.prod (.int .i64) (.prod (.int .i64) (.prod (.int .i64) (.prod (.sl 155 (.int .u64)) (.sl 2 (.int .i64))))))))), some 226, []⟩),
(74, ⟨true, 1, 24, [.emp 226 (.prod (.int .i64) (.prod (.int .i64) (.prod (.int .i64) (.prod (.int .i64) (.prod (.int .i64) (.prod (.sl 155 (.int .u64)) (.sl 2 (.int .i64))))))))], some (.sl 226 (.prod (.int .i64) (.prod (.int .i64) (.prod (.int .i64) (.prod (.int .i64) (.prod (.int .i64) (.prod (.sl 155 (.int .u64)) (.sl 2 (.int .i64))))))))), none, [(0, 73)]⟩),
(75, ⟨true, 1, 24, [.emp 226 (.prod (.int .i64) (.prod (.int .i64) (.prod (.int .i64) (.prod (.int .i64) (.prod (.int .i64) (.prod (.sl 155 (.int .u64)) (.sl 2 (.int .i64))))))))], some (.sl 226 (.prod (.int .i64) (.prod (.int .i64) (.prod (.int .i64) (.prod (.int .i64) (.prod (.int .i64) (.prod (.sl 155 (.int .u64)) (.sl 2 (.int .i64))))))))), none, [(0, 73)]⟩),
(76, ⟨false, 1, 8, [.undef], none, none, []⟩),
(77, ⟨false, 1, 8, [.undef], none, none, []⟩),
(78, ⟨false, 1, 8, [.undef], none, none, []⟩),
(79, ⟨false, 1, 8, [.undef], none, none, []⟩),
(80, ⟨false, 1, 24, [.emp 174 (.prod (.int .i64) (.prod (.int .i64) (.prod (.int .i64) (.prod (.int .i64) (.prod (.int .i64) (.prod (.sl 155 (.int .u64)) (.sl 2 (.int .i64))))))))], some (.sl 174 (.prod (.int .i64) (.prod (.int .i64) (.prod (.int .i64) (.prod (.int .i64) (.prod (.int .i64) (.prod (.sl 155 (.int .u64)) (.sl 2 (.int .i64))))))))), some 174, []⟩),
(81, ⟨true, 1, 24, [.emp 174 (.prod (.int .i64) (.prod (.int .i64) (.prod (.int .i64) (.prod (.int .i64) (.prod (.int .i64) (.prod (.sl 155 (.int .u64)) (.sl 2 (.int .i64))))))))], some (.sl 174 (.prod (.int .i64) (.prod (.int .i64) (.prod (.int .i64) (.prod (.int .i64) (.prod (.int .i64) (.prod (.sl 155 (.int .u64)) (.sl 2 (.int .i64))))))))), none, [(0, 80)]⟩),
(82, ⟨true, 1, 24, [.emp 174 (.prod (.int .i64) (.prod (.int .i64) (.prod (.int .i64) (.prod (.int .i64) (.prod (.int .i64) (.prod (.sl 155 (.int .u64)) (.sl 2 (.int .i64))))))))], some (.sl 174 (.prod (.int .i64) (.prod (.int .i64) (.prod (.int .i64) (.prod (.int .i64) (.prod (.int .i64) (.prod (.sl 155 (.int .u64)) (.sl 2 (.int .i64))))))))), none, [(0, 80)]⟩),
(83, ⟨false, 1, 8, [.undef], none, none, []⟩),
(84, ⟨false, 1, 8, [.undef], none, none, []⟩),
(85, ⟨false, 1, 8, [.undef], none, none, []⟩),
(86, ⟨false, 1, 8, [.undef], none, none, []⟩),
(87, ⟨false, 1, 24, [.emp 177 (.prod (.int .i64) (.prod .bool (.prod (.sl 226 (.prod (.int .i64) (.prod (.int .i64) (.prod (.int .i64) (.prod (.int .i64) (.prod (.int .i64) (.prod (.sl 155 (.int .u64)) (.sl 2 (.int .i64))))))))) (.sl 226 (.prod (.int .i64) (.prod (.int .i64) (.prod (.int .i64) (.prod (.int .i64) (.prod (.int .i64) (.prod (.sl 155 (.int .u64)) (.sl 2 (.int .i64))))))))))))], some (.sl 177 (.prod (.int .i64) (.prod .bool (.prod (.sl 226 (.prod (.int .i64) (.prod (.int .i64) (.prod (.int .i64) (.prod (.int .i64) (.prod (.int .i64) (.prod (.sl 155 (.int .u64)) (.sl 2 (.int .i64))))))))) (.sl 226 (.prod (.int .i64) (.prod (.int .i64) (.prod (.int .i64) (.prod (.int .i64) (.prod (.int .i64) (.prod (.sl 155 (.int .u64)) (.sl 2 (.int .i64))))))))))))), some 177, []⟩),
(88, ⟨false, 1, 8, [.undef], none, none, []⟩),
(89, ⟨false, 1, 8, [.undef], none, none, []⟩),
(90, ⟨false, 1, 24, [.emp 179 (.prod (.int .i64) (.prod .bool (.prod (.sl 174 (.prod (.int .i64) (.prod (.int .i64) (.prod (.int .i64) (.prod (.int .i64) (.prod (.int .i64) (.prod (.sl 155 (.int .u64)) (.sl 2 (.int .i64))))))))) (.sl 174 (.prod (.int .i64) (.prod (.int .i64) (.prod (.int .i64) (.prod (.int .i64) (.prod (.int .i64) (.prod (.sl 155 (.int .u64)) (.sl 2 (.int .i64))))))))))))], some (.sl 179 (.prod (.int .i64) (.prod .bool (.prod (.sl 174 (.prod (.int .i64) (.prod (.int .i64) (.prod (.int .i64) (.prod (.int .i64) (.prod (.int .i64) (.prod (.sl 155 (.int .u64)) (.sl 2 (.int .i64))))))))) (.sl 174 (.prod (.int .i64) (.prod (.int .i64) (.prod (.int .i64) (.prod (.int .i64) (.prod (.int .i64) (.prod (.sl 155 (.int .u64)) (.sl 2 (.int .i64))))))))))))), some 179, []⟩),
(91, ⟨false, 1, 8, [.undef], none, none, []⟩),
(92, ⟨false, 1, 8, [.undef], none, none, []⟩),
(93, ⟨false, 1, 8, [.undef], none, none, []⟩),
(94, ⟨false, 1, 8, [.undef], none, none, []⟩),
(95, ⟨false, 1, 8, [.undef], none, none, []⟩),
(96, ⟨false, 1, 24, [.emp 102 (.prod (.int .i64) (.prod (.int .i64) (.prod (.int .i64) (.prod (.int .i64) (.sl 155 (.int .u64))))))], some (.sl 102 (.prod (.int .i64) (.prod (.int .i64) (.prod (.int .i64) (.prod (.int .i64) (.sl 155 (.int .u64))))))), some 102, []⟩),
(98, ⟨false, 1, 8, [.undef], none, none, []⟩),
(100, ⟨false, 1, 8, [.undef], none, none, []⟩),
(101, ⟨true, 5, 56, [.int .i64 0, .int .i64 0, .int .i64 0, .int .i64 0, .emp 155 (.int .u64)], some (.prod (.int .i64) (.prod (.int .i64) (.prod (.int .i64) (.prod (.int .i64) (.sl 155 (.int .u64)))))), none, [(0, 2), (1, 2), (2, 2), (3, 58)]⟩),
(102, ⟨true, 5, 56, [.int .i64 0, .int .i64 0, .int .i64 0, .int .i64 0, .emp 155 (.int .u64)], some (.prod (.int .i64) (.prod (.int .i64) (.prod (.int .i64) (.prod (.int .i64) (.sl 155 (.int .u64)))))), none, [(0, 2), (1, 2), (2, 2), (3, 58)]⟩),
(103, ⟨false, 1, 8, [.undef], none, none, []⟩),
(104, ⟨false, 1, 8, [.undef], none, none, []⟩),
(105, ⟨false, 1, 24, [.emp 245 (.prod (.int .i64) (.sl 177 (.prod (.int .i64) (.prod .bool (.prod (.sl 226 (.prod (.int .i64) (.prod (.int .i64) (.prod (.int .i64) (.prod (.int .i64) (.prod (.int .i64) (.prod (.sl 155 (.int .u64)) (.sl 2 (.int .i64))))))))) (.sl 226 (.prod (.int .i64) (.prod (.int .i64) (.prod (.int .i64) (.prod (.int .i64) (.prod (.int .i64) (.prod (.sl 155 (.int .u64)) (.sl 2 (.int .i64))))))))))))))], some (.sl 245 (.prod (.int .i64) (.sl 177 (.prod (.int .i64) (.prod .bool (.prod (.sl 226 (.prod (.int .i64) (.prod (.int .i64) (.prod (.int .i64) (.prod (.int .i64) (.prod (.int .i64) (.prod (.sl 155 (.int .u64)) (.sl 2 (.int .i64))))))))) (.sl 226 (.prod (.int .i64) (.prod (.int .i64) (.prod (.int .i64) (.prod (.int .i64) (.prod (.int .i64) (.prod (.sl 155 (.int .u64)) (.sl 2 (.int .i64))))))))))))))), some 245, []⟩),
(106, ⟨true, 3, 56, [.emp 164 (.prod .str (.int .i64)), .emp 245 (.prod (.int .i64) (.sl 177 (.prod (.int .i64) (.prod .bool (.prod (.sl 226 (.prod (.int .i64) (.prod (.int .i64) (.prod (.int .i64) (.prod (.int .i64) (.prod (.int .i64) (.prod (.sl 155 (.int .u64)) (.sl 2 (.int .i64))))))))) (.sl 226 (.prod (.int .i64) (.prod (.int .i64) (.prod (.int .i64) (.prod (.int .i64) (.prod (.int .i64) (.prod (.sl 155 (.int .u64)) (.sl 2 (.int .i64)))))))))))))), .int .i64 0], some (.prod (.sl 164 (.prod .str (.int .i64))) (.prod (.sl 245 (.prod (.int .i64) (.sl 177 (.prod (.int .i64) (.prod .bool (.prod (.sl 226 (.prod (.int .i64) (.prod (.int .i64) (.prod (.int .i64) (.prod (.int .i64) (.prod (.int .i64) (.prod (.sl 155 (.int .u64)) (.sl 2 (.int .i64))))))))) (.sl 226 (.prod (.int .i64) (.prod (.int .i64) (.prod (.int .i64) (.prod (.int .i64) (.prod (.int .i64) (.prod (.sl 155 (.int .u64)) (.sl 2 (.int .i64))))))))))))))) (.int .i64))), none, [(0, 72), (1, 105), (2, 2)]⟩),
(107, ⟨true, 3, 56, [.emp 164 (.prod .str (.int .i64)), .emp 245 (.prod (.int .i64) (.sl 177 (.prod (.int .i64) (.prod .bool (.prod (.sl 226 (.prod (.int .i64) (.prod (.int .i64) (.prod (.int .i64) (.prod (.int .i64) (.prod (.int .i64) (.prod (.sl 155 (.int .u64)) (.sl 2 (.int .i64))))))))) (.sl 226 (.prod (.int .i64) (.prod (.int .i64) (.prod (.int .i64) (.prod (.int .i64) (.prod (.int .i64) (.prod (.sl 155 (.int .u64)) (.sl 2 (.int .i64)))))))))))))), .int .i64 0], some (.prod (.sl 164 (.prod .str (.int .i64))) (.prod (.sl 245 (.prod (.int .i64) (.sl 177 (.prod (.int .i64) (.prod .bool (.prod (.sl 226 (.prod (.int .i64) (.prod (.int .i64) (.prod (.int .i64) (.prod (.int .i64) (.prod (.int .i64) (.prod (.sl 155 (.int .u64)) (.sl 2 (.int .i64))))))))) (.sl 226 (.prod (.int .i64) (.prod (.int .i64) (.prod (.int .i64) (.prod (.int .i64) (.prod (.int .i64) (.prod (.sl 155 (.int .u64)) (.sl 2 (.int .i64))))))))))))))) (.int .i64))), none, [(0, 72), (1, 105), (2, 2)]⟩),
(108, ⟨false, 1, 8, [.undef], none, none, []⟩),
(109, ⟨false, 1, 8, [.undef], none, none, []⟩),
(114, ⟨false, 1, 8, [.undef], none, none, []⟩),
(115, ⟨false, 1, 8, [.undef], none, none, []⟩),
(118, ⟨true, 3, 40, [.int .i64 0, .int .i64 0, .emp 201 (.prod (.int .i64) (.prod (.int .i64) (.prod (.int .i64) (.sl 155 (.int .u64)))))], some (.prod (.int .i64) (.prod (.int .i64) (.sl 201 (.prod (.int .i64) (.prod (.int .i64) (.prod (.int .i64) (.sl 155 (.int .u64)))))))), none, [(0, 2), (1, 2), (2, 34)]⟩),
(119, ⟨true, 3, 40, [.int .i64 0, .int .i64 0, .emp 123 (.prod (.int .i64) (.prod (.int .i64) (.prod (.int .i64) (.sl 155 (.int .u64)))))], some (.prod (.int .i64) (.prod (.int .i64) (.sl 123 (.prod (.int .i64) (.prod (.int .i64) (.prod (.int .i64) (.sl 155 (.int .u64)))))))), none, [(0, 2), (1, 2), (2, 24)]⟩),
(120, ⟨true, 3, 40, [.int .i64 0, .int .i64 0, .emp 123 (.prod (.int .i64) (.prod (.int .i64) (.prod (.int .i64) (.sl 155 (.int .u64)))))], some (.prod (.int .i64) (.prod (.int .i64) (.sl 123 (.prod (.int .i64) (.prod (.int .i64) (.prod (.int .i64) (.sl 155 (.int .u64)))))))), none, [(0, 2), (1, 2), (2, 24)]⟩),
(121, ⟨false, 1, 8, [.undef], none, none, []⟩),
(123, ⟨true, 4, 48, [.int .i64 0, .int .i64 0, .int .i64 0, .emp 155 (.int .u64)], some (.prod (.int .i64) (.prod (.int .i64) (.prod (.int .i64) (.sl 155 (.int .u64))))), none, [(0, 2), (1, 2), (2, 58)]⟩),
(131, ⟨true, 2, 32, [.int .i64 0, .emp 155 (.int .u64)], some (.prod (.int .i64) (.sl 155 (.int .u64))), none, [(0, 2), (1, 56)]⟩),
(132, ⟨false, 1, 8, [.undef], none, none, []⟩),
(137, ⟨false, 1, 8, [.undef], none, none, []⟩),
(154, ⟨false, 1, 8, [.undef], none, none, []⟩),
(155, ⟨false, 1, 8, [.int .u64 0], some (.int .u64), none, []⟩),
(157, ⟨true, 2, 48, [.emp 2 (.int .i64), .emp 58 (.prod (.int .i64) (.sl 155 (.int .u64)))], some (.prod (.sl 2 (.int .i64)) (.sl 58 (.prod (.int .i64) (.sl 155 (.int .u64))))), none, [(0, 33), (1, 44)]⟩),
(158, ⟨false, 1, 24, [.emp 157 (.prod (.sl 2 (.int .i64)) (.sl 58 (.prod (.int .i64) (.sl 155 (.int .u64)))))], some (.sl 157 (.prod (.sl 2 (.int .i64)) (.sl 58 (.prod (.int .i64) (.sl 155 (.int .u64)))))), some 157, []⟩),
(159, ⟨false, 1, 8, [.undef], none, none, []⟩),
(160, ⟨false, 1, 8, [.undef], none, none, []⟩),
(161, ⟨false, 1, 8, [.undef], none, none, []⟩),
(162, ⟨false, 1, 8, [.undef], none, none, []⟩),
(163, ⟨true, 2, 24, [.str [], .int .i64 0], some (.prod .str (.int .i64)), none, [(0, 9), (1, 2)]⟩),
(164, ⟨true, 2, 24, [.str [], .int .i64 0], some (.prod .str (.int .i64)), none, [(0, 9), (1, 2)]⟩),
(165, ⟨false, 1, 8, [.undef], none, none, []⟩),
(166, ⟨false, 1, 8, [.undef], none, none, []⟩),
(167, ⟨true, 2, 24, [.str [], .int .i64 0], some (.prod .str (.int .i64)), none, [(0, 9), (1, 2)]⟩),
(172, ⟨false, 1, 8, [.undef], none, none, []⟩),
(174, ⟨true, 7, 88, [.int .i64 0, .int .i64 0, .int .i64 0, .int .i64 0, .int .i64 0, .emp 155 (.int .u64), .emp 2 (.int .i64)], some (.prod (.int .i64) (.prod (.int .i64) (.prod (.int .i64) (.prod (.int .i64) (.prod (.int .i64) (.prod (.sl 155 (.int .u64)) (.sl 2 (.int .i64)))))))), none, [(0, 2), (1, 2), (2, 2), (3, 2), (4, 58), (6, 33)]⟩),
(177, ⟨true, 4, 64, [.int .i64 0, .bool false, .emp 226 (.prod (.int .i64) (.prod (.int .i64) (.prod (.int .i64) (.prod (.int .i64) (.prod (.int .i64) (.prod (.sl 155 (.int .u64)) (.sl 2 (.int .i64)))))))), .emp 226 (.prod (.int .i64) (.prod (.int .i64) (.prod (.int .i64) (.prod (.int .i64) (.prod (.int .i64) (.prod (.sl 155 (.int .u64)) (.sl 2 (.int .i64))))))))], some (.prod (.int .i64) (.prod .bool (.prod (.sl 226 (.prod (.int .i64) (.prod (.int .i64) (.prod (.int .i64) (.prod (.int .i64) (.prod (.int .i64) (.prod (.sl 155 (.int .u64)) (.sl 2 (.int .i64))))))))) (.sl 226 (.prod (.int .i64) (.prod (.int .i64) (.prod (.int .i64) (.prod (.int .i64) (.prod (.int .i64) (.prod (.sl 155 (.int .u64)) (.sl 2 (.int .i64)))))))))))), none, [(0, 2), (1, 4), (2, 75), (3, 75)]⟩),
(179, ⟨true, 4, 64, [.int .i64 0, .bool false, .emp 174 (.prod (.int .i64) (.prod (.int .i64) (.prod (.int .i64) (.prod (.int .i64) (.prod (.int .i64) (.prod (.sl 155 (.int .u64)) (.sl 2 (.int .i64)))))))), .emp 174 (.prod (.int .i64) (.prod (.int .i64) (.prod (.int .i64) (.prod (.int .i64) (.prod (.int .i64) (.prod (.sl 155 (.int .u64)) (.sl 2 (.int .i64))))))))], some (.prod (.int .i64) (.prod .bool (.prod (.sl 174 (.prod (.int .i64) (.prod (.int .i64) (.prod (.int .i64) (.prod (.int .i64) (.prod (.int .i64) (.prod (.sl 155 (.int .u64)) (.sl 2 (.int .i64))))))))) (.sl 174 (.prod (.int .i64) (.prod (.int .i64) (.prod (.int .i64) (.prod (.int .i64) (.prod (.int .i64) (.prod (.sl 155 (.int .u64)) (.sl 2 (.int .i64)))))))))))), none, [(0, 2), (1, 4), (2, 82), (3, 82)]⟩),
(182, ⟨false, 1, 8, [.undef], none, none, []⟩),
(183, ⟨false, 1, 8, [.undef], none, none, []⟩),
(184, ⟨false, 1, 8, [.undef], none, none, []⟩),
(200, ⟨true, 4, 48, [.int .i64 0, .int .i64 0, .int .i64 0, .emp 155 (.int .u64)], some (.prod (.int .i64) (.prod (.int .i64) (.prod (.int .i64) (.sl 155 (.int .u64))))), none, [(0, 2), (1, 2), (2, 131)]⟩),
(201, ⟨true, 4, 48, [.int .i64 0, .int .i64 0, .int .i64 0, .emp 155 (.int .u64)], some (.prod (.int .i64) (.prod (.int .i64) (.prod (.int .i64) (.sl 155 (.int .u64))))), none, [(0, 2), (1, 2), (2, 131)]⟩),
(208, ⟨false, 1, 8, [.undef], none, none, []⟩),
(209, ⟨true, 2, 32, [.emp 5 (.int .u8), .int .i64 0], some (.prod (.sl 5 (.int .u8)) (.int .i64)), none, [(0, 49), (1, 3)]⟩),
(221, ⟨false, 1, 8, [.undef], none, none, []⟩),
(222, ⟨false, 1, 8, [.undef], none, none, []⟩),
(226, ⟨true, 7, 88, [.int .i64 0, .int .i64 0, .int .i64 0, .int .i64 0, .int .i64 0, .emp 155 (.int .u64), .emp 2 (.int .i64)], some (.prod (.int .i64) (.prod (.int .i64) (.prod (.int .i64) (.prod (.int .i64) (.prod (.int .i64) (.prod (.sl 155 (.int .u64)) (.sl 2 (.int .i64)))))))), none, [(0, 2), (1, 2), (2, 2), (3, 2), (4, 131), (6, 33)]⟩),
(245, ⟨true, 2, 32, [.int .i64 0, .emp 177 (.prod (.int .i64) (.prod .bool (.prod (.sl 226 (.prod (.int .i64) (.prod (.int .i64) (.prod (.int .i64) (.prod (.int .i64) (.prod (.int .i64) (.prod (.sl 155 (.int .u64)) (.sl 2 (.int .i64))))))))) (.sl 226 (.prod (.int .i64) (.prod (.int .i64) (.prod (.int .i64) (.prod (.int .i64) (.prod (.int .i64) (.prod (.sl 155 (.int .u64)) (.sl 2 (.int .i64))))))))))))], some (.prod (.int .i64) (.sl 177 (.prod (.int .i64) (.prod .bool (.prod (.sl 226 (.prod (.int .i64) (.prod (.int .i64) (.prod (.int .i64) (.prod (.int .i64) (.prod (.int .i64) (.prod (.sl 155 (.int .u64)) (.sl 2 (.int .i64))))))))) (.sl 226 (.prod (.int .i64) (.prod (.int .i64) (.prod (.int .i64) (.prod (.int .i64) (.prod (.int .i64) (.prod (.sl 155 (.int .u64)) (.sl 2 (.int .i64)))))))))))))), none, [(0, 2), (1, 87)]⟩)]
noncomputable def fns : List (Nat × Func) := [(7, Try.f7), (19, Try.f19), (24, Try.f24), (27, Try.f27), (30, Try.f30), (43, Try.f43), (44, Try.f44), (46, Try.f46), (77, Try.f77), (80, Try.f80), (84, Try.f84), (85, Try.f85), (86, Try.f86), (87, Try.f87), (88, Try.f88), (89, Try.f89), (90, Try.f90), (91, Try.f91), (92, Try.f92), (93, Try.f93), (94, Try.f94), (96, Try.f96), (97, Try.f97), (98, Try.f98), (103, Try.f103), (104, Try.f104), (108, Try.f108), (114, Try.f114), (115, Try.f115), (119, Try.f119), (120, Try.f120), (121, Try.f121), (154, Try.f154), (157, Try.f157), (158, Try.f158), (159, Try.f159), (160, Try.f160), (161, Try.f161), (162, Try.f162), (163, Try.f163), (164, Try.f164), (165, Try.f165), (166, Try.f166), (167, Try.f167), (172, Try.f172), (182, Try.f182), (183, Try.f183), (184, Try.f184), (208, Try.f208), (209, Try.f209)]
def fis : List (Nat × Fi) := [
(7, ⟨[], [], []⟩),
(19, ⟨[], [], [(4, ⟨⟨[0, 1, 5], []⟩, [(0, ⟨[], []⟩)], ⟨[4], []⟩⟩)]⟩),
(24, ⟨[], [], []⟩),
(27, ⟨[], [], []⟩),
(30, ⟨[], [], []⟩),
(43, ⟨[], [], []⟩),
(44, ⟨[], [], []⟩),
(46, ⟨[], [], [(5, ⟨⟨[1, 3, 4], []⟩, [(0, ⟨[1, 3], []⟩)], ⟨[2], []⟩⟩), (10, ⟨⟨[1, 3, 5], []⟩, [(2, ⟨[], []⟩)], ⟨[2], []⟩⟩), (1000014, ⟨⟨[1, 3, 5, 6, 64], []⟩, [(1000000, ⟨[1, 3, 5, 6], []⟩)], ⟨[2], []⟩⟩), (1000015, ⟨⟨[1, 3, 5, 6], []⟩, [(1000000, ⟨[1, 3, 5], []⟩)], ⟨[2], []⟩⟩)]⟩),
(77, ⟨[2], [], [(2, ⟨⟨[0, 3, 5], []⟩, [(0, ⟨[0, 3], []⟩)], ⟨[4], []⟩⟩)]⟩),
(80, ⟨[], [], []⟩),
(84, ⟨[], [], []⟩),
(85, ⟨[], [], [(5, ⟨⟨[0, 1, 5], []⟩, [(0, ⟨[1], []⟩)], ⟨[4], []⟩⟩)]⟩),
(86, ⟨[], [], []⟩),
(87, ⟨[], [], [(4, ⟨⟨[1, 3], []⟩, [(0, ⟨[], []⟩)], ⟨[2], []⟩⟩)]⟩),
(88, ⟨[], [], [(4, ⟨⟨[2, 3, 5], []⟩, [(0, ⟨[], []⟩)], ⟨[4], []⟩⟩)]⟩),
(89, ⟨[], [], [(3, ⟨⟨[0, 3, 4], []⟩, [(0, ⟨[3], []⟩)], ⟨[2], []⟩⟩)]⟩),
(90, ⟨[], [], [(3, ⟨⟨[0, 3, 4], []⟩, [(0, ⟨[3], []⟩)], ⟨[2], []⟩⟩)]⟩),
(91, ⟨[], [], []⟩),
(92, ⟨[], [], [(4, ⟨⟨[1, 16, 17, 18], []⟩, [(0, ⟨[1], []⟩)], ⟨[2], []⟩⟩)]⟩),
(93, ⟨[], [], []⟩),
(94, ⟨[], [], []⟩),
(96, ⟨[], [], []⟩),
(97, ⟨[], [], [(4, ⟨⟨[0, 1, 5], []⟩, [(0, ⟨[], []⟩)], ⟨[4], []⟩⟩)]⟩),
(98, ⟨[], [], []⟩),
(103, ⟨[], [], []⟩),
(104, ⟨[], [], [(4, ⟨⟨[1, 2, 5, 6, 7], [(5, 0, .own 99), (6, 0, .own 99)]⟩, [(0, ⟨[5, 6], []⟩)], ⟨[4], []⟩⟩)]⟩),
(108, ⟨[], [], []⟩),
(114, ⟨[], [], [(2, ⟨⟨[0, 1, 5], []⟩, [(0, ⟨[], []⟩)], ⟨[4], []⟩⟩)]⟩),
(115, ⟨[], [], []⟩),
(119, ⟨[], [some 2], [(4, ⟨⟨[3, 4, 14, 15, 16], [(1000003, 0, .own 2)]⟩, [(0, ⟨[3], []⟩)], ⟨[2], []⟩⟩)]⟩),
(120, ⟨[], [], []⟩),
(121, ⟨[], [], []⟩),
(154, ⟨[], [], []⟩),
(157, ⟨[], [], []⟩),
(158, ⟨[], [], []⟩),
(159, ⟨[], [], []⟩),
(160, ⟨[], [], []⟩),
(161, ⟨[], [], [(3, ⟨⟨[0, 3, 4], []⟩, [(0, ⟨[3], []⟩)], ⟨[2], []⟩⟩)]⟩),
(162, ⟨[], [], []⟩),
(163, ⟨[], [], []⟩),
(164, ⟨[], [], []⟩),
(165, ⟨[], [], [(2, ⟨⟨[0, 1, 7, 8], []⟩, [(0, ⟨[], []⟩)], ⟨[4], []⟩⟩)]⟩),
(166, ⟨[], [], [(4, ⟨⟨[0, 1, 12, 13], []⟩, [(0, ⟨[], []⟩)], ⟨[4], []⟩⟩)]⟩),
(167, ⟨[], [], [(4, ⟨⟨[0, 1, 5], []⟩, [(0, ⟨[], []⟩)], ⟨[4], []⟩⟩)]⟩),
(172, ⟨[], [], [(3, ⟨⟨[0, 3, 4], [(3, 0, .own 99)]⟩, [(0, ⟨[3], []⟩)], ⟨[2], []⟩⟩), (8, ⟨⟨[0, 3, 4, 5], []⟩, [(2, ⟨[0, 3, 4, 5], []⟩)], ⟨[2], []⟩⟩)]⟩),
(182, ⟨[0, 0, 1], [], []⟩),
(183, ⟨[], [], []⟩),
(184, ⟨[], [], []⟩),
(208, ⟨[], [], [(2, ⟨⟨[0, 1, 7, 8], []⟩, [(0, ⟨[], []⟩)], ⟨[4], []⟩⟩)]⟩),
(209, ⟨[], [], [(2, ⟨⟨[0, 1, 7, 8], []⟩, [(0, ⟨[], []⟩)], ⟨[4], []⟩⟩)]⟩)]
def fiF (f : Nat) : Fi := (look f fis).getD ⟨[], [], []⟩
noncomputable def C : Ctx := { ti := fun t => look t tis, fs := fun f => look f fns, fi := fiF }
def bodyOf (f : Func) : Code := f.body.getD .skip
def loopOf (f : Func) (k : Nat) : Code := (findLoop k (bodyOf f)).getD .skip
def cutOf (f : Func) (k : Nat) : Code := (findCut k (bodyOf f)).getD .skip
def liOf (l : List (Nat × Li)) (k : Nat) : Li := (look k l).getD ⟨⟨[], []⟩, [], ⟨[], []⟩⟩
theorem tis_ok : (tis.all fun x => tiB Try.prog x.1 x.2) = true := by kernel_rfl
theorem fns_all : (fns.all fun x => fnB (fiF x.1) x.2) = true := by kernel_rfl
theorem fnp (f : Nat) (x : Func) (r : List (Nat × Func)) (h : Try.prog.funcs[f]? = some x) (hr : ∀ y ∈ r, Try.prog.funcs[y.1]? = some y.2) : ∀ y ∈ (f, x) :: r, Try.prog.funcs[y.1]? = some y.2 := List.forall_mem_cons.2 ⟨h, hr⟩
set_option maxRecDepth 100000 in
theorem fns_prog : ∀ x ∈ fns, Try.prog.funcs[x.1]? = some x.2 := (fnp _ _ _ Try.func7
(fnp _ _ _ Try.func19
(fnp _ _ _ Try.func24
(fnp _ _ _ Try.func27
(fnp _ _ _ Try.func30
(fnp _ _ _ Try.func43
(fnp _ _ _ Try.func44
(fnp _ _ _ Try.func46
(fnp _ _ _ Try.func77
(fnp _ _ _ Try.func80
(fnp _ _ _ Try.func84
(fnp _ _ _ Try.func85
(fnp _ _ _ Try.func86
(fnp _ _ _ Try.func87
(fnp _ _ _ Try.func88
(fnp _ _ _ Try.func89
(fnp _ _ _ Try.func90
(fnp _ _ _ Try.func91
(fnp _ _ _ Try.func92
(fnp _ _ _ Try.func93
(fnp _ _ _ Try.func94
(fnp _ _ _ Try.func96
(fnp _ _ _ Try.func97
(fnp _ _ _ Try.func98
(fnp _ _ _ Try.func103
(fnp _ _ _ Try.func104
(fnp _ _ _ Try.func108
(fnp _ _ _ Try.func114
(fnp _ _ _ Try.func115
(fnp _ _ _ Try.func119
(fnp _ _ _ Try.func120
(fnp _ _ _ Try.func121
(fnp _ _ _ Try.func154
(fnp _ _ _ Try.func157
(fnp _ _ _ Try.func158
(fnp _ _ _ Try.func159
(fnp _ _ _ Try.func160
(fnp _ _ _ Try.func161
(fnp _ _ _ Try.func162
(fnp _ _ _ Try.func163
(fnp _ _ _ Try.func164
(fnp _ _ _ Try.func165
(fnp _ _ _ Try.func166
(fnp _ _ _ Try.func167
(fnp _ _ _ Try.func172
(fnp _ _ _ Try.func182
(fnp _ _ _ Try.func183
(fnp _ _ _ Try.func184
(fnp _ _ _ Try.func208
(fnp _ _ _ Try.func209
(fun _ h => by cases h)))))))))))))))))))))))))))))))))))))))))))))))))))
theorem C_ok : CtxOK Try.prog C := ctx_ok tis_ok fns_prog
theorem C_fns : FnsOK Try.prog C := Go.Vsi.fns_ok fns_all
theorem C_follows : Try.prog.follows .mixedOrders = true := by kernel_rfl
def D0 (n : Nat) : CallF := noC
theorem D0_ok {X0 : CallF} (hX : CallF.Mono X0) : ∀ n g a K, D0 n g a K → callM C X0 n g a K := fun n => noC_ok
end Go.Vsi
end

section
set_option linter.unusedVariables false
namespace Go.Vsi
open Go.Proofs
section
variable {X0 : CallF} (hX : CallF.Mono X0)
include hX
abbrev laws_szUint64S.a : List TS := [.c (.o (.dat 155 (.int .u64))), .c (.o (.int .i64))]
def laws_szUint64S.u (n : Nat) (v : VA laws_szUint64S.a) (K : RES → Prop) : Prop := laws_szUint64S.c n v.1 v.2.1 (fun r0 => K ⟨.c (.int .i64 r0), []⟩)
theorem laws_szUint64S_ok : ∀ n v K, laws_szUint64S.u n v K → callM C X0 n 158 (fillA laws_szUint64S.a v) K :=
 call_tell hX (fn := Try.f158) (c := bodyOf Try.f158) (by kernel_rfl) (by kernel_rfl) (A := laws_szUint64S.a) (u := laws_szUint64S.u) (fun _ _ h => h) (call := D0) (lp := fun n => noL) (D0_ok hX) (fun n => noL_ok) (fun n v K => by kernel_rfl)
def D1 (n : Nat) : CallF := orC 158 laws_szUint64S.a (laws_szUint64S.u n) (D0 n)
theorem D1_ok : ∀ n g a K, D1 n g a K → callM C X0 n g a K := fun n => orC_ok (laws_szUint64S_ok hX n) (D0_ok hX n)
abbrev laws_szBits.a : List TS := [.a [.o (.int .i64), .o (.dat 155 (.int .u64))], .c (.o (.int .i64))]
def laws_szBits.u (n : Nat) (v : VA laws_szBits.a) (K : RES → Prop) : Prop := laws_szBits.c n v.1.1 v.1.2.1 v.2.1 (fun r0 => K ⟨.c (.int .i64 r0), []⟩)
theorem laws_szBits_ok : ∀ n v K, laws_szBits.u n v K → callM C X0 n 86 (fillA laws_szBits.a v) K :=
 call_tell hX (fn := Try.f86) (c := bodyOf Try.f86) (by kernel_rfl) (by kernel_rfl) (A := laws_szBits.a) (u := laws_szBits.u) (fun _ _ h => h) (call := D1) (lp := fun n => noL) (D1_ok hX) (fun n => noL_ok) (fun n v K => by kernel_rfl)
def D2 (n : Nat) : CallF := orC 86 laws_szBits.a (laws_szBits.u n) (D1 n)
theorem D2_ok : ∀ n g a K, D2 n g a K → callM C X0 n g a K := fun n => orC_ok (laws_szBits_ok hX n) (D1_ok hX n)
abbrev laws_szBar.a : List TS := [.a [.o (.int .i64), .o (.int .i64), .o (.int .i64), .o (.dat 155 (.int .u64))], .c (.o (.int .i64))]
def laws_szBar.u (n : Nat) (v : VA laws_szBar.a) (K : RES → Prop) : Prop := laws_szBar.c n v.1.1 v.1.2.1 v.1.2.2.1 v.1.2.2.2.1 v.2.1 (fun r0 => K ⟨.c (.int .i64 r0), []⟩)
theorem laws_szBar_ok : ∀ n v K, laws_szBar.u n v K → callM C X0 n 157 (fillA laws_szBar.a v) K :=
 call_tell hX (fn := Try.f157) (c := bodyOf Try.f157) (by kernel_rfl) (by kernel_rfl) (A := laws_szBar.a) (u := laws_szBar.u) (fun _ _ h => h) (call := D2) (lp := fun n => noL) (D2_ok hX) (fun n => noL_ok) (fun n v K => by kernel_rfl)
def D3 (n : Nat) : CallF := orC 157 laws_szBar.a (laws_szBar.u n) (D2 n)
theorem D3_ok : ∀ n g a K, D3 n g a K → callM C X0 n g a K := fun n => orC_ok (laws_szBar_ok hX n) (D2_ok hX n)
abbrev laws_szBarS.a : List TS := [.c (.o (.dat 201 (.prod (.int .i64) (.prod (.int .i64) (.prod (.int .i64) (.sl 155 (.int .u64))))))), .c (.o (.int .i64))]
def laws_szBarS.u (n : Nat) (v : VA laws_szBarS.a) (K : RES → Prop) : Prop := laws_szBarS.c n v.1 v.2.1 (fun r0 => K ⟨.c (.int .i64 r0), []⟩)
abbrev laws_szBarS.l5.s : ST := ⟨[(0, .c (.o (.dat 201 (.prod (.int .i64) (.prod (.int .i64) (.prod (.int .i64) (.sl 155 (.int .u64)))))))), (1, .c (.o (.int .i64))), (5, .c (.o (.int .i64)))], [], [], [], []⟩
def laws_szBarS.l5.u (n : Nat) (v : laws_szBarS.l5.s.V) (K : X → St → Prop) : Prop := laws_szBarS.l5 n v.1.1 v.1.2.1 v.1.2.2.1 (fun y0 => K (.exit 0) ⟨[(1, .c (.int .i64 y0))], [], [], [], []⟩) (fun y0 => K .ret ⟨[(4, .c (.int .i64 y0))], [], [], [], []⟩)
theorem laws_szBarS.l5_ok : ∀ n v K, laws_szBarS.l5.u n v K → loopM C X0 n 85 5 (laws_szBarS.l5.s.fill v) K :=
 loop_tell hX (fn := Try.f85) (c := bodyOf Try.f85) (a := loopOf Try.f85 5) (li := liOf (C.fi 85).loops 5) (by kernel_rfl) (by kernel_rfl) (of_decide_eq_true rfl) (by kernel_rfl) (by kernel_rfl) (T := laws_szBarS.l5.s) (u := laws_szBarS.l5.u) (fun _ _ h => h) (call := D3) (lp := fun n => noL) (D3_ok hX) (fun n => noL_ok) (fun n v K => by kernel_rfl)
theorem laws_szBarS_ok : ∀ n v K, laws_szBarS.u n v K → callM C X0 n 85 (fillA laws_szBarS.a v) K :=
 call_tell hX (fn := Try.f85) (c := bodyOf Try.f85) (by kernel_rfl) (by kernel_rfl) (A := laws_szBarS.a) (u := laws_szBarS.u) (fun _ _ h => h) (call := D3) (lp := fun n => orL 5 laws_szBarS.l5.s (laws_szBarS.l5.u n) noL) (D3_ok hX) (fun n => (orL_ok (laws_szBarS.l5_ok hX n) noL_ok)) (fun n v K => by kernel_rfl)
def D4 (n : Nat) : CallF := orC 85 laws_szBarS.a (laws_szBarS.u n) (D3 n)
theorem D4_ok : ∀ n g a K, D4 n g a K → callM C X0 n g a K := fun n => orC_ok (laws_szBarS_ok hX n) (D3_ok hX n)
abbrev laws_toUint64S.a : List TS := [.c (.o (.dat 155 (.int .u64)))]
def laws_toUint64S.u (n : Nat) (v : VA laws_toUint64S.a) (K : RES → Prop) : Prop := laws_toUint64S.c n v.1 (fun r0 => K ⟨.c (.row ⟨155, .int .u64, r0, 99, none⟩), []⟩)
abbrev laws_toUint64S.l3.s : ST := ⟨[(0, .c (.o (.dat 155 (.int .u64)))), (3, .c (.o (.own 224))), (4, .c (.o (.int .i64)))], [⟨224, 155, .int .u64, 99⟩], [], [], []⟩
def laws_toUint64S.l3.u (n : Nat) (v : laws_toUint64S.l3.s.V) (K : X → St → Prop) : Prop := laws_toUint64S.l3 n v.1.1 v.1.2.2.1 v.2.1.1 (fun y0 => K (.exit 0) ⟨[(3, .c (.own 224))], [(224, ⟨155, .int .u64, y0, 99, none⟩)], [], [], []⟩)
theorem laws_toUint64S.l3_ok : ∀ n v K, laws_toUint64S.l3.u n v K → loopM C X0 n 161 3 (laws_toUint64S.l3.s.fill v) K :=
 loop_tell hX (fn := Try.f161) (c := bodyOf Try.f161) (a := loopOf Try.f161 3) (li := liOf (C.fi 161).loops 3) (by kernel_rfl) (by kernel_rfl) (of_decide_eq_true rfl) (by kernel_rfl) (by kernel_rfl) (T := laws_toUint64S.l3.s) (u := laws_toUint64S.l3.u) (fun _ _ h => h) (call := D4) (lp := fun n => noL) (D4_ok hX) (fun n => noL_ok) (fun n v K => by kernel_rfl)
theorem laws_toUint64S_ok : ∀ n v K, laws_toUint64S.u n v K → callM C X0 n 161 (fillA laws_toUint64S.a v) K :=
 call_tell hX (fn := Try.f161) (c := bodyOf Try.f161) (by kernel_rfl) (by kernel_rfl) (A := laws_toUint64S.a) (u := laws_toUint64S.u) (fun _ _ h => h) (call := D4) (lp := fun n => orL 3 laws_toUint64S.l3.s (laws_toUint64S.l3.u n) noL) (D4_ok hX) (fun n => (orL_ok (laws_toUint64S.l3_ok hX n) noL_ok)) (fun n v K => by kernel_rfl)
def D5 (n : Nat) : CallF := orC 161 laws_toUint64S.a (laws_toUint64S.u n) (D4 n)
theorem D5_ok : ∀ n g a K, D5 n g a K → callM C X0 n g a K := fun n => orC_ok (laws_toUint64S_ok hX n) (D4_ok hX n)
abbrev laws_toBits.a : List TS := [.a [.o (.int .i64), .o (.dat 155 (.int .u64))]]
def laws_toBits.u (n : Nat) (v : VA laws_toBits.a) (K : RES → Prop) : Prop := laws_toBits.c n v.1.1 v.1.2.1 (fun r0 r1 => K ⟨.agg [.int .i64 r0, .row ⟨155, .int .u64, r1, 99, none⟩], []⟩)
theorem laws_toBits_ok : ∀ n v K, laws_toBits.u n v K → callM C X0 n 91 (fillA laws_toBits.a v) K :=
 call_tell hX (fn := Try.f91) (c := bodyOf Try.f91) (by kernel_rfl) (by kernel_rfl) (A := laws_toBits.a) (u := laws_toBits.u) (fun _ _ h => h) (call := D5) (lp := fun n => noL) (D5_ok hX) (fun n => noL_ok) (fun n v K => by kernel_rfl)
def D6 (n : Nat) : CallF := orC 91 laws_toBits.a (laws_toBits.u n) (D5 n)
theorem D6_ok : ∀ n g a K, D6 n g a K → callM C X0 n g a K := fun n => orC_ok (laws_toBits_ok hX n) (D5_ok hX n)
abbrev laws_toBar.a : List TS := [.a [.o (.int .i64), .o (.int .i64), .o (.int .i64), .o (.dat 155 (.int .u64))]]
def laws_toBar.u (n : Nat) (v : VA laws_toBar.a) (K : RES → Prop) : Prop := laws_toBar.c n v.1.1 v.1.2.1 v.1.2.2.1 v.1.2.2.2.1 (fun r0 r1 r2 r3 => K ⟨.agg [.int .i64 r0, .int .i64 r1, .int .i64 r2, .row ⟨155, .int .u64, r3, 99, none⟩], []⟩)
theorem laws_toBar_ok : ∀ n v K, laws_toBar.u n v K → callM C X0 n 160 (fillA laws_toBar.a v) K :=
 call_tell hX (fn := Try.f160) (c := bodyOf Try.f160) (by kernel_rfl) (by kernel_rfl) (A := laws_toBar.a) (u := laws_toBar.u) (fun _ _ h => h) (call := D6) (lp := fun n => noL) (D6_ok hX) (fun n => noL_ok) (fun n v K => by kernel_rfl)
def D7 (n : Nat) : CallF := orC 160 laws_toBar.a (laws_toBar.u n) (D6 n)
theorem D7_ok : ∀ n g a K, D7 n g a K → callM C X0 n g a K := fun n => orC_ok (laws_toBar_ok hX n) (D6_ok hX n)
abbrev laws_toBarS.a : List TS := [.c (.o (.dat 201 (.prod (.int .i64) (.prod (.int .i64) (.prod (.int .i64) (.sl 155 (.int .u64)))))))]
def laws_toBarS.u (n : Nat) (v : VA laws_toBarS.a) (K : RES → Prop) : Prop := laws_toBarS.c n v.1 (fun r0 => K ⟨.c (.row ⟨123, .prod (.int .i64) (.prod (.int .i64) (.prod (.int .i64) (.sl 155 (.int .u64)))), r0, 99, none⟩), []⟩)
abbrev laws_toBarS.l3.s : ST := ⟨[(0, .c (.o (.dat 201 (.prod (.int .i64) (.prod (.int .i64) (.prod (.int .i64) (.sl 155 (.int .u64)))))))), (3, .c (.o (.own 224))), (4, .c (.o (.int .i64)))], [⟨224, 123, .prod (.int .i64) (.prod (.int .i64) (.prod (.int .i64) (.sl 155 (.int .u64)))), 99⟩], [], [], []⟩
def laws_toBarS.l3.u (n : Nat) (v : laws_toBarS.l3.s.V) (K : X → St → Prop) : Prop := laws_toBarS.l3 n v.1.1 v.1.2.2.1 v.2.1.1 (fun y0 => K (.exit 0) ⟨[(3, .c (.own 224))], [(224, ⟨123, .prod (.int .i64) (.prod (.int .i64) (.prod (.int .i64) (.sl 155 (.int .u64)))), y0, 99, none⟩)], [], [], []⟩)
theorem laws_toBarS.l3_ok : ∀ n v K, laws_toBarS.l3.u n v K → loopM C X0 n 90 3 (laws_toBarS.l3.s.fill v) K :=
 loop_tell hX (fn := Try.f90) (c := bodyOf Try.f90) (a := loopOf Try.f90 3) (li := liOf (C.fi 90).loops 3) (by kernel_rfl) (by kernel_rfl) (of_decide_eq_true rfl) (by kernel_rfl) (by kernel_rfl) (T := laws_toBarS.l3.s) (u := laws_toBarS.l3.u) (fun _ _ h => h) (call := D7) (lp := fun n => noL) (D7_ok hX) (fun n => noL_ok) (fun n v K => by kernel_rfl)
theorem laws_toBarS_ok : ∀ n v K, laws_toBarS.u n v K → callM C X0 n 90 (fillA laws_toBarS.a v) K :=
 call_tell hX (fn := Try.f90) (c := bodyOf Try.f90) (by kernel_rfl) (by kernel_rfl) (A := laws_toBarS.a) (u := laws_toBarS.u) (fun _ _ h => h) (call := D7) (lp := fun n => orL 3 laws_toBarS.l3.s (laws_toBarS.l3.u n) noL) (D7_ok hX) (fun n => (orL_ok (laws_toBarS.l3_ok hX n) noL_ok)) (fun n v K => by kernel_rfl)
def D8 (n : Nat) : CallF := orC 90 laws_toBarS.a (laws_toBarS.u n) (D7 n)
theorem D8_ok : ∀ n g a K, D8 n g a K → callM C X0 n g a K := fun n => orC_ok (laws_toBarS_ok hX n) (D7_ok hX n)
abbrev spec_l3SameBits.a : List TS := [.a [.o (.int .i64), .o (.dat 155 (.int .u64))], .a [.o (.int .i64), .o (.dat 155 (.int .u64))]]
def spec_l3SameBits.u (n : Nat) (v : VA spec_l3SameBits.a) (K : RES → Prop) : Prop := spec_l3SameBits.c n v.1.1 v.1.2.1 v.2.1.1 v.2.1.2.1 (fun r0 => K ⟨.c (.bool r0), []⟩)
abbrev spec_l3SameBits.l4.s : ST := ⟨[(2, .c (.o (.pbox 2 0))), (3, .c (.o (.pbox 3 0))), (5, .c (.o (.int .i64)))], [], [⟨2, 58, [.o (.int .i64), .o (.dat 155 (.int .u64))], false⟩, ⟨3, 58, [.o (.int .i64), .o (.dat 155 (.int .u64))], false⟩], [], []⟩
def spec_l3SameBits.l4.u (n : Nat) (v : spec_l3SameBits.l4.s.V) (K : X → St → Prop) : Prop := spec_l3SameBits.l4 n v.2.2.1.1 v.2.2.1.2.1 v.2.2.2.1.1 v.2.2.2.1.2.1 v.1.2.2.1 (K (.exit 0) ⟨[], [], [], [], []⟩) (fun y0 => K .ret ⟨[(4, .c (.bool y0))], [], [], [], []⟩)
theorem spec_l3SameBits.l4_ok : ∀ n v K, spec_l3SameBits.l4.u n v K → loopM C X0 n 88 4 (spec_l3SameBits.l4.s.fill v) K :=
 loop_tell hX (fn := Try.f88) (c := bodyOf Try.f88) (a := loopOf Try.f88 4) (li := liOf (C.fi 88).loops 4) (by kernel_rfl) (by kernel_rfl) (of_decide_eq_true rfl) (by kernel_rfl) (by kernel_rfl) (T := spec_l3SameBits.l4.s) (u := spec_l3SameBits.l4.u) (fun _ _ h => h) (call := D8) (lp := fun n => noL) (D8_ok hX) (fun n => noL_ok) (fun n v K => by kernel_rfl)
theorem spec_l3SameBits_ok : ∀ n v K, spec_l3SameBits.u n v K → callM C X0 n 88 (fillA spec_l3SameBits.a v) K :=
 call_tell hX (fn := Try.f88) (c := bodyOf Try.f88) (by kernel_rfl) (by kernel_rfl) (A := spec_l3SameBits.a) (u := spec_l3SameBits.u) (fun _ _ h => h) (call := D8) (lp := fun n => orL 4 spec_l3SameBits.l4.s (spec_l3SameBits.l4.u n) noL) (D8_ok hX) (fun n => (orL_ok (spec_l3SameBits.l4_ok hX n) noL_ok)) (fun n v K => by kernel_rfl)
def D9 (n : Nat) : CallF := orC 88 spec_l3SameBits.a (spec_l3SameBits.u n) (D8 n)
theorem D9_ok : ∀ n g a K, D9 n g a K → callM C X0 n g a K := fun n => orC_ok (spec_l3SameBits_ok hX n) (D8_ok hX n)
abbrev spec_l9SameBar.a : List TS := [.a [.o (.int .i64), .o (.int .i64), .o (.int .i64), .o (.dat 155 (.int .u64))], .a [.o (.int .i64), .o (.int .i64), .o (.int .i64), .o (.dat 155 (.int .u64))]]
def spec_l9SameBar.u (n : Nat) (v : VA spec_l9SameBar.a) (K : RES → Prop) : Prop := spec_l9SameBar.c n v.1.1 v.1.2.1 v.1.2.2.1 v.1.2.2.2.1 v.2.1.1 v.2.1.2.1 v.2.1.2.2.1 v.2.1.2.2.2.1 (fun r0 => K ⟨.c (.bool r0), []⟩)
theorem spec_l9SameBar_ok : ∀ n v K, spec_l9SameBar.u n v K → callM C X0 n 154 (fillA spec_l9SameBar.a v) K :=
 call_tell hX (fn := Try.f154) (c := bodyOf Try.f154) (by kernel_rfl) (by kernel_rfl) (A := spec_l9SameBar.a) (u := spec_l9SameBar.u) (fun _ _ h => h) (call := D9) (lp := fun n => noL) (D9_ok hX) (fun n => noL_ok) (fun n v K => by kernel_rfl)
def D10 (n : Nat) : CallF := orC 154 spec_l9SameBar.a (spec_l9SameBar.u n) (D9 n)
theorem D10_ok : ∀ n g a K, D10 n g a K → callM C X0 n g a K := fun n => orC_ok (spec_l9SameBar_ok hX n) (D9_ok hX n)
abbrev spec_l8CopyBits.a : List TS := [.a [.o (.int .i64), .o (.dat 155 (.int .u64))]]
def spec_l8CopyBits.u (n : Nat) (v : VA spec_l8CopyBits.a) (K : RES → Prop) : Prop := spec_l8CopyBits.c n v.1.1 v.1.2.1 (fun r0 r1 => K ⟨.agg [.int .i64 r0, .row ⟨155, .int .u64, r1, 99, none⟩], []⟩)
theorem spec_l8CopyBits_ok : ∀ n v K, spec_l8CopyBits.u n v K → callM C X0 n 115 (fillA spec_l8CopyBits.a v) K :=
 call_tell hX (fn := Try.f115) (c := bodyOf Try.f115) (by kernel_rfl) (by kernel_rfl) (A := spec_l8CopyBits.a) (u := spec_l8CopyBits.u) (fun _ _ h => h) (call := D10) (lp := fun n => noL) (D10_ok hX) (fun n => noL_ok) (fun n v K => by kernel_rfl)
def D11 (n : Nat) : CallF := orC 115 spec_l8CopyBits.a (spec_l8CopyBits.u n) (D10 n)
theorem D11_ok : ∀ n g a K, D11 n g a K → callM C X0 n g a K := fun n => orC_ok (spec_l8CopyBits_ok hX n) (D10_ok hX n)
abbrev spec_l9Put.a : List TS := [.c (.o (.row 123 (.prod (.int .i64) (.prod (.int .i64) (.prod (.int .i64) (.sl 155 (.int .u64))))) 99)), .a [.o (.int .i64), .o (.int .i64), .o (.int .i64), .o (.dat 155 (.int .u64))]]
def spec_l9Put.u (n : Nat) (v : VA spec_l9Put.a) (K : RES → Prop) : Prop := spec_l9Put.c n v.1 v.2.1.1 v.2.1.2.1 v.2.1.2.2.1 v.2.1.2.2.2.1 (fun r0 => K ⟨.c (.row ⟨123, .prod (.int .i64) (.prod (.int .i64) (.prod (.int .i64) (.sl 155 (.int .u64)))), r0, 99, none⟩), []⟩)
abbrev spec_l9Put.l2.s : ST := ⟨[(0, .c (.o (.own 0))), (3, .c (.o (.pbox 3 0))), (5, .c (.o (.int .i64)))], [⟨0, 123, .prod (.int .i64) (.prod (.int .i64) (.prod (.int .i64) (.sl 155 (.int .u64)))), 99⟩], [⟨3, 123, [.o (.int .i64), .o (.int .i64), .o (.int .i64), .o (.dat 155 (.int .u64))], false⟩], [], []⟩
def spec_l9Put.l2.u (n : Nat) (v : spec_l9Put.l2.s.V) (K : X → St → Prop) : Prop := spec_l9Put.l2 n v.2.1.1 v.2.2.1.1 v.2.2.1.2.1 v.2.2.1.2.2.1 v.2.2.1.2.2.2.1 v.1.2.2.1 (fun y0 y1 y2 y3 y4 => K (.exit 0) ⟨[(0, .c (.own 0)), (3, .c (.pbox 3 0))], [(0, ⟨123, .prod (.int .i64) (.prod (.int .i64) (.prod (.int .i64) (.sl 155 (.int .u64)))), y0, 99, none⟩)], [(3, ⟨123, [.int .i64 y1, .int .i64 y2, .int .i64 y3, .dat 155 (.int .u64) y4], false⟩)], [], []⟩) (fun y0 => K .ret ⟨[(4, .c (.own 0))], [(0, ⟨123, .prod (.int .i64) (.prod (.int .i64) (.prod (.int .i64) (.sl 155 (.int .u64)))), y0, 99, none⟩)], [], [], []⟩)
theorem spec_l9Put.l2_ok : ∀ n v K, spec_l9Put.l2.u n v K → loopM C X0 n 77 2 (spec_l9Put.l2.s.fill v) K :=
 loop_tell hX (fn := Try.f77) (c := bodyOf Try.f77) (a := loopOf Try.f77 2) (li := liOf (C.fi 77).loops 2) (by kernel_rfl) (by kernel_rfl) (of_decide_eq_true rfl) (by kernel_rfl) (by kernel_rfl) (T := spec_l9Put.l2.s) (u := spec_l9Put.l2.u) (fun _ _ h => h) (call := D11) (lp := fun n => noL) (D11_ok hX) (fun n => noL_ok) (fun n v K => by kernel_rfl)
theorem spec_l9Put_ok : ∀ n v K, spec_l9Put.u n v K → callM C X0 n 77 (fillA spec_l9Put.a v) K :=
 call_tell hX (fn := Try.f77) (c := bodyOf Try.f77) (by kernel_rfl) (by kernel_rfl) (A := spec_l9Put.a) (u := spec_l9Put.u) (fun _ _ h => h) (call := D11) (lp := fun n => orL 2 spec_l9Put.l2.s (spec_l9Put.l2.u n) noL) (D11_ok hX) (fun n => (orL_ok (spec_l9Put.l2_ok hX n) noL_ok)) (fun n v K => by kernel_rfl)
def D12 (n : Nat) : CallF := orC 77 spec_l9Put.a (spec_l9Put.u n) (D11 n)
theorem D12_ok : ∀ n g a K, D12 n g a K → callM C X0 n g a K := fun n => orC_ok (spec_l9Put_ok hX n) (D11_ok hX n)
abbrev slices_Equal_uint64.a : List TS := [.c (.o (.dat 155 (.int .u64))), .c (.o (.dat 155 (.int .u64)))]
def slices_Equal_uint64.u (n : Nat) (v : VA slices_Equal_uint64.a) (K : RES → Prop) : Prop := slices_Equal_uint64.c n v.1 v.2.1 (fun r0 => K ⟨.c (.bool r0), []⟩)
abbrev slices_Equal_uint64.l4.s : ST := ⟨[(0, .c (.o (.dat 155 (.int .u64)))), (1, .c (.o (.dat 155 (.int .u64)))), (12, .c (.o (.int .i64))), (13, .c (.o (.int .i64)))], [], [], [], []⟩
def slices_Equal_uint64.l4.u (n : Nat) (v : slices_Equal_uint64.l4.s.V) (K : X → St → Prop) : Prop := slices_Equal_uint64.l4 n v.1.1 v.1.2.1 v.1.2.2.1 v.1.2.2.2.1 (K (.exit 0) ⟨[], [], [], [], []⟩) (fun y0 => K .ret ⟨[(4, .c (.bool y0))], [], [], [], []⟩)
theorem slices_Equal_uint64.l4_ok : ∀ n v K, slices_Equal_uint64.l4.u n v K → loopM C X0 n 166 4 (slices_Equal_uint64.l4.s.fill v) K :=
 loop_tell hX (fn := Try.f166) (c := bodyOf Try.f166) (a := loopOf Try.f166 4) (li := liOf (C.fi 166).loops 4) (by kernel_rfl) (by kernel_rfl) (of_decide_eq_true rfl) (by kernel_rfl) (by kernel_rfl) (T := slices_Equal_uint64.l4.s) (u := slices_Equal_uint64.l4.u) (fun _ _ h => h) (call := D12) (lp := fun n => noL) (D12_ok hX) (fun n => noL_ok) (fun n v K => by kernel_rfl)
theorem slices_Equal_uint64_ok : ∀ n v K, slices_Equal_uint64.u n v K → callM C X0 n 166 (fillA slices_Equal_uint64.a v) K :=
 call_tell hX (fn := Try.f166) (c := bodyOf Try.f166) (by kernel_rfl) (by kernel_rfl) (A := slices_Equal_uint64.a) (u := slices_Equal_uint64.u) (fun _ _ h => h) (call := D12) (lp := fun n => orL 4 slices_Equal_uint64.l4.s (slices_Equal_uint64.l4.u n) noL) (D12_ok hX) (fun n => (orL_ok (slices_Equal_uint64.l4_ok hX n) noL_ok)) (fun n v K => by kernel_rfl)
def D13 (n : Nat) : CallF := orC 166 slices_Equal_uint64.a (slices_Equal_uint64.u n) (D12 n)
theorem D13_ok : ∀ n g a K, D13 n g a K → callM C X0 n g a K := fun n => orC_ok (slices_Equal_uint64_ok hX n) (D12_ok hX n)
abbrev impl_Bits_same.a : List TS := [.a [.o (.int .i64), .o (.dat 155 (.int .u64))], .a [.o (.int .i64), .o (.dat 155 (.int .u64))]]
def impl_Bits_same.u (n : Nat) (v : VA impl_Bits_same.a) (K : RES → Prop) : Prop := impl_Bits_same.c n v.1.1 v.1.2.1 v.2.1.1 v.2.1.2.1 (fun r0 => K ⟨.c (.bool r0), []⟩)
theorem impl_Bits_same_ok : ∀ n v K, impl_Bits_same.u n v K → callM C X0 n 96 (fillA impl_Bits_same.a v) K :=
 call_tell hX (fn := Try.f96) (c := bodyOf Try.f96) (by kernel_rfl) (by kernel_rfl) (A := impl_Bits_same.a) (u := impl_Bits_same.u) (fun _ _ h => h) (call := D13) (lp := fun n => noL) (D13_ok hX) (fun n => noL_ok) (fun n v K => by kernel_rfl)
def D14 (n : Nat) : CallF := orC 96 impl_Bits_same.a (impl_Bits_same.u n) (D13 n)
theorem D14_ok : ∀ n g a K, D14 n g a K → callM C X0 n g a K := fun n => orC_ok (impl_Bits_same_ok hX n) (D13_ok hX n)
abbrev laws_eqUint64S.a : List TS := [.c (.o (.dat 155 (.int .u64))), .c (.o (.dat 155 (.int .u64)))]
def laws_eqUint64S.u (n : Nat) (v : VA laws_eqUint64S.a) (K : RES → Prop) : Prop := laws_eqUint64S.c n v.1 v.2.1 (fun r0 => K ⟨.c (.bool r0), []⟩)
abbrev laws_eqUint64S.l4.s : ST := ⟨[(0, .c (.o (.dat 155 (.int .u64)))), (1, .c (.o (.dat 155 (.int .u64)))), (5, .c (.o (.int .i64)))], [], [], [], []⟩
def laws_eqUint64S.l4.u (n : Nat) (v : laws_eqUint64S.l4.s.V) (K : X → St → Prop) : Prop := laws_eqUint64S.l4 n v.1.1 v.1.2.1 v.1.2.2.1 (K (.exit 0) ⟨[], [], [], [], []⟩) (fun y0 => K .ret ⟨[(4, .c (.bool y0))], [], [], [], []⟩)
theorem laws_eqUint64S.l4_ok : ∀ n v K, laws_eqUint64S.l4.u n v K → loopM C X0 n 167 4 (laws_eqUint64S.l4.s.fill v) K :=
 loop_tell hX (fn := Try.f167) (c := bodyOf Try.f167) (a := loopOf Try.f167 4) (li := liOf (C.fi 167).loops 4) (by kernel_rfl) (by kernel_rfl) (of_decide_eq_true rfl) (by kernel_rfl) (by kernel_rfl) (T := laws_eqUint64S.l4.s) (u := laws_eqUint64S.l4.u) (fun _ _ h => h) (call := D14) (lp := fun n => noL) (D14_ok hX) (fun n => noL_ok) (fun n v K => by kernel_rfl)
theorem laws_eqUint64S_ok : ∀ n v K, laws_eqUint64S.u n v K → callM C X0 n 167 (fillA laws_eqUint64S.a v) K :=
 call_tell hX (fn := Try.f167) (c := bodyOf Try.f167) (by kernel_rfl) (by kernel_rfl) (A := laws_eqUint64S.a) (u := laws_eqUint64S.u) (fun _ _ h => h) (call := D14) (lp := fun n => orL 4 laws_eqUint64S.l4.s (laws_eqUint64S.l4.u n) noL) (D14_ok hX) (fun n => (orL_ok (laws_eqUint64S.l4_ok hX n) noL_ok)) (fun n v K => by kernel_rfl)
def D15 (n : Nat) : CallF := orC 167 laws_eqUint64S.a (laws_eqUint64S.u n) (D14 n)
theorem D15_ok : ∀ n g a K, D15 n g a K → callM C X0 n g a K := fun n => orC_ok (laws_eqUint64S_ok hX n) (D14_ok hX n)
abbrev laws_eqBits.a : List TS := [.a [.o (.int .i64), .o (.dat 155 (.int .u64))], .a [.o (.int .i64), .o (.dat 155 (.int .u64))]]
def laws_eqBits.u (n : Nat) (v : VA laws_eqBits.a) (K : RES → Prop) : Prop := laws_eqBits.c n v.1.1 v.1.2.1 v.2.1.1 v.2.1.2.1 (fun r0 => K ⟨.c (.bool r0), []⟩)
theorem laws_eqBits_ok : ∀ n v K, laws_eqBits.u n v K → callM C X0 n 98 (fillA laws_eqBits.a v) K :=
 call_tell hX (fn := Try.f98) (c := bodyOf Try.f98) (by kernel_rfl) (by kernel_rfl) (A := laws_eqBits.a) (u := laws_eqBits.u) (fun _ _ h => h) (call := D15) (lp := fun n => noL) (D15_ok hX) (fun n => noL_ok) (fun n v K => by kernel_rfl)
def D16 (n : Nat) : CallF := orC 98 laws_eqBits.a (laws_eqBits.u n) (D15 n)
theorem D16_ok : ∀ n g a K, D16 n g a K → callM C X0 n g a K := fun n => orC_ok (laws_eqBits_ok hX n) (D15_ok hX n)
abbrev laws_eqBar.a : List TS := [.a [.o (.int .i64), .o (.int .i64), .o (.int .i64), .o (.dat 155 (.int .u64))], .a [.o (.int .i64), .o (.int .i64), .o (.int .i64), .o (.dat 155 (.int .u64))]]
def laws_eqBar.u (n : Nat) (v : VA laws_eqBar.a) (K : RES → Prop) : Prop := laws_eqBar.c n v.1.1 v.1.2.1 v.1.2.2.1 v.1.2.2.2.1 v.2.1.1 v.2.1.2.1 v.2.1.2.2.1 v.2.1.2.2.2.1 (fun r0 => K ⟨.c (.bool r0), []⟩)
theorem laws_eqBar_ok : ∀ n v K, laws_eqBar.u n v K → callM C X0 n 80 (fillA laws_eqBar.a v) K :=
 call_tell hX (fn := Try.f80) (c := bodyOf Try.f80) (by kernel_rfl) (by kernel_rfl) (A := laws_eqBar.a) (u := laws_eqBar.u) (fun _ _ h => h) (call := D16) (lp := fun n => noL) (D16_ok hX) (fun n => noL_ok) (fun n v K => by kernel_rfl)
def D17 (n : Nat) : CallF := orC 80 laws_eqBar.a (laws_eqBar.u n) (D16 n)
theorem D17_ok : ∀ n g a K, D17 n g a K → callM C X0 n g a K := fun n => orC_ok (laws_eqBar_ok hX n) (D16_ok hX n)
abbrev laws_eqBarS.a : List TS := [.c (.o (.dat 123 (.prod (.int .i64) (.prod (.int .i64) (.prod (.int .i64) (.sl 155 (.int .u64))))))), .c (.o (.dat 123 (.prod (.int .i64) (.prod (.int .i64) (.prod (.int .i64) (.sl 155 (.int .u64)))))))]
def laws_eqBarS.u (n : Nat) (v : VA laws_eqBarS.a) (K : RES → Prop) : Prop := laws_eqBarS.c n v.1 v.2.1 (fun r0 => K ⟨.c (.bool r0), []⟩)
abbrev laws_eqBarS.l4.s : ST := ⟨[(0, .c (.o (.dat 123 (.prod (.int .i64) (.prod (.int .i64) (.prod (.int .i64) (.sl 155 (.int .u64)))))))), (1, .c (.o (.dat 123 (.prod (.int .i64) (.prod (.int .i64) (.prod (.int .i64) (.sl 155 (.int .u64)))))))), (5, .c (.o (.int .i64)))], [], [], [], []⟩
def laws_eqBarS.l4.u (n : Nat) (v : laws_eqBarS.l4.s.V) (K : X → St → Prop) : Prop := laws_eqBarS.l4 n v.1.1 v.1.2.1 v.1.2.2.1 (K (.exit 0) ⟨[], [], [], [], []⟩) (fun y0 => K .ret ⟨[(4, .c (.bool y0))], [], [], [], []⟩)
theorem laws_eqBarS.l4_ok : ∀ n v K, laws_eqBarS.l4.u n v K → loopM C X0 n 19 4 (laws_eqBarS.l4.s.fill v) K :=
 loop_tell hX (fn := Try.f19) (c := bodyOf Try.f19) (a := loopOf Try.f19 4) (li := liOf (C.fi 19).loops 4) (by kernel_rfl) (by kernel_rfl) (of_decide_eq_true rfl) (by kernel_rfl) (by kernel_rfl) (T := laws_eqBarS.l4.s) (u := laws_eqBarS.l4.u) (fun _ _ h => h) (call := D17) (lp := fun n => noL) (D17_ok hX) (fun n => noL_ok) (fun n v K => by kernel_rfl)
theorem laws_eqBarS_ok : ∀ n v K, laws_eqBarS.u n v K → callM C X0 n 19 (fillA laws_eqBarS.a v) K :=
 call_tell hX (fn := Try.f19) (c := bodyOf Try.f19) (by kernel_rfl) (by kernel_rfl) (A := laws_eqBarS.a) (u := laws_eqBarS.u) (fun _ _ h => h) (call := D17) (lp := fun n => orL 4 laws_eqBarS.l4.s (laws_eqBarS.l4.u n) noL) (D17_ok hX) (fun n => (orL_ok (laws_eqBarS.l4_ok hX n) noL_ok)) (fun n v K => by kernel_rfl)
def D18 (n : Nat) : CallF := orC 19 laws_eqBarS.a (laws_eqBarS.u n) (D17 n)
theorem D18_ok : ∀ n g a K, D18 n g a K → callM C X0 n g a K := fun n => orC_ok (laws_eqBarS_ok hX n) (D17_ok hX n)
abbrev laws_szInt64S.a : List TS := [.c (.o (.dat 2 (.int .i64))), .c (.o (.int .i64))]
def laws_szInt64S.u (n : Nat) (v : VA laws_szInt64S.a) (K : RES → Prop) : Prop := laws_szInt64S.c n v.1 v.2.1 (fun r0 => K ⟨.c (.int .i64 r0), []⟩)
theorem laws_szInt64S_ok : ∀ n v K, laws_szInt64S.u n v K → callM C X0 n 84 (fillA laws_szInt64S.a v) K :=
 call_tell hX (fn := Try.f84) (c := bodyOf Try.f84) (by kernel_rfl) (by kernel_rfl) (A := laws_szInt64S.a) (u := laws_szInt64S.u) (fun _ _ h => h) (call := D18) (lp := fun n => noL) (D18_ok hX) (fun n => noL_ok) (fun n v K => by kernel_rfl)
def D19 (n : Nat) : CallF := orC 84 laws_szInt64S.a (laws_szInt64S.u n) (D18 n)
theorem D19_ok : ∀ n g a K, D19 n g a K → callM C X0 n g a K := fun n => orC_ok (laws_szInt64S_ok hX n) (D18_ok hX n)
abbrev laws_szGraph.a : List TS := [.a [.o (.dat 2 (.int .i64)), .o (.dat 201 (.prod (.int .i64) (.prod (.int .i64) (.prod (.int .i64) (.sl 155 (.int .u64))))))], .c (.o (.int .i64))]
def laws_szGraph.u (n : Nat) (v : VA laws_szGraph.a) (K : RES → Prop) : Prop := laws_szGraph.c n v.1.1 v.1.2.1 v.2.1 (fun r0 => K ⟨.c (.int .i64 r0), []⟩)
theorem laws_szGraph_ok : ∀ n v K, laws_szGraph.u n v K → callM C X0 n 24 (fillA laws_szGraph.a v) K :=
 call_tell hX (fn := Try.f24) (c := bodyOf Try.f24) (by kernel_rfl) (by kernel_rfl) (A := laws_szGraph.a) (u := laws_szGraph.u) (fun _ _ h => h) (call := D19) (lp := fun n => noL) (D19_ok hX) (fun n => noL_ok) (fun n v K => by kernel_rfl)
def D20 (n : Nat) : CallF := orC 24 laws_szGraph.a (laws_szGraph.u n) (D19 n)
theorem D20_ok : ∀ n g a K, D20 n g a K → callM C X0 n g a K := fun n => orC_ok (laws_szGraph_ok hX n) (D19_ok hX n)
abbrev laws_toInt64S.a : List TS := [.c (.o (.dat 2 (.int .i64)))]
def laws_toInt64S.u (n : Nat) (v : VA laws_toInt64S.a) (K : RES → Prop) : Prop := laws_toInt64S.c n v.1 (fun r0 => K ⟨.c (.row ⟨2, .int .i64, r0, 99, none⟩), []⟩)
abbrev laws_toInt64S.l3.s : ST := ⟨[(0, .c (.o (.dat 2 (.int .i64)))), (3, .c (.o (.own 224))), (4, .c (.o (.int .i64)))], [⟨224, 2, .int .i64, 99⟩], [], [], []⟩
def laws_toInt64S.l3.u (n : Nat) (v : laws_toInt64S.l3.s.V) (K : X → St → Prop) : Prop := laws_toInt64S.l3 n v.1.1 v.1.2.2.1 v.2.1.1 (fun y0 => K (.exit 0) ⟨[(3, .c (.own 224))], [(224, ⟨2, .int .i64, y0, 99, none⟩)], [], [], []⟩)
theorem laws_toInt64S.l3_ok : ∀ n v K, laws_toInt64S.l3.u n v K → loopM C X0 n 89 3 (laws_toInt64S.l3.s.fill v) K :=
 loop_tell hX (fn := Try.f89) (c := bodyOf Try.f89) (a := loopOf Try.f89 3) (li := liOf (C.fi 89).loops 3) (by kernel_rfl) (by kernel_rfl) (of_decide_eq_true rfl) (by kernel_rfl) (by kernel_rfl) (T := laws_toInt64S.l3.s) (u := laws_toInt64S.l3.u) (fun _ _ h => h) (call := D20) (lp := fun n => noL) (D20_ok hX) (fun n => noL_ok) (fun n v K => by kernel_rfl)
theorem laws_toInt64S_ok : ∀ n v K, laws_toInt64S.u n v K → callM C X0 n 89 (fillA laws_toInt64S.a v) K :=
 call_tell hX (fn := Try.f89) (c := bodyOf Try.f89) (by kernel_rfl) (by kernel_rfl) (A := laws_toInt64S.a) (u := laws_toInt64S.u) (fun _ _ h => h) (call := D20) (lp := fun n => orL 3 laws_toInt64S.l3.s (laws_toInt64S.l3.u n) noL) (D20_ok hX) (fun n => (orL_ok (laws_toInt64S.l3_ok hX n) noL_ok)) (fun n v K => by kernel_rfl)
def D21 (n : Nat) : CallF := orC 89 laws_toInt64S.a (laws_toInt64S.u n) (D20 n)
theorem D21_ok : ∀ n g a K, D21 n g a K → callM C X0 n g a K := fun n => orC_ok (laws_toInt64S_ok hX n) (D20_ok hX n)
abbrev laws_toGraph.a : List TS := [.a [.o (.dat 2 (.int .i64)), .o (.dat 201 (.prod (.int .i64) (.prod (.int .i64) (.prod (.int .i64) (.sl 155 (.int .u64))))))]]
def laws_toGraph.u (n : Nat) (v : VA laws_toGraph.a) (K : RES → Prop) : Prop := laws_toGraph.c n v.1.1 v.1.2.1 (fun r0 r1 => K ⟨.agg [.row ⟨2, .int .i64, r0, 99, none⟩, .row ⟨123, .prod (.int .i64) (.prod (.int .i64) (.prod (.int .i64) (.sl 155 (.int .u64)))), r1, 99, none⟩], []⟩)
theorem laws_toGraph_ok : ∀ n v K, laws_toGraph.u n v K → callM C X0 n 27 (fillA laws_toGraph.a v) K :=
 call_tell hX (fn := Try.f27) (c := bodyOf Try.f27) (by kernel_rfl) (by kernel_rfl) (A := laws_toGraph.a) (u := laws_toGraph.u) (fun _ _ h => h) (call := D21) (lp := fun n => noL) (D21_ok hX) (fun n => noL_ok) (fun n v K => by kernel_rfl)
def D22 (n : Nat) : CallF := orC 27 laws_toGraph.a (laws_toGraph.u n) (D21 n)
theorem D22_ok : ∀ n g a K, D22 n g a K → callM C X0 n g a K := fun n => orC_ok (laws_toGraph_ok hX n) (D21_ok hX n)
abbrev spec_l1In.a : List TS := [.c (.o (.int .i64)), .c (.o (.int .i64)), .c (.o (.int .i64))]
def spec_l1In.u (n : Nat) (v : VA spec_l1In.a) (K : RES → Prop) : Prop := spec_l1In.c n v.1 v.2.1 v.2.2.1 (fun r0 => K ⟨.c (.bool r0), []⟩)
theorem spec_l1In_ok : ∀ n v K, spec_l1In.u n v K → callM C X0 n 103 (fillA spec_l1In.a v) K :=
 call_tell hX (fn := Try.f103) (c := bodyOf Try.f103) (by kernel_rfl) (by kernel_rfl) (A := spec_l1In.a) (u := spec_l1In.u) (fun _ _ h => h) (call := D22) (lp := fun n => noL) (D22_ok hX) (fun n => noL_ok) (fun n v K => by kernel_rfl)
def D23 (n : Nat) : CallF := orC 103 spec_l1In.a (spec_l1In.u n) (D22 n)
theorem D23_ok : ∀ n g a K, D23 n g a K → callM C X0 n g a K := fun n => orC_ok (spec_l1In_ok hX n) (D22_ok hX n)
abbrev spec_l3NoBits.a : List TS := [.a [.o (.int .i64), .o (.dat 155 (.int .u64))]]
def spec_l3NoBits.u (n : Nat) (v : VA spec_l3NoBits.a) (K : RES → Prop) : Prop := spec_l3NoBits.c n v.1.1 v.1.2.1 (fun r0 => K ⟨.c (.bool r0), []⟩)
theorem spec_l3NoBits_ok : ∀ n v K, spec_l3NoBits.u n v K → callM C X0 n 121 (fillA spec_l3NoBits.a v) K :=
 call_tell hX (fn := Try.f121) (c := bodyOf Try.f121) (by kernel_rfl) (by kernel_rfl) (A := spec_l3NoBits.a) (u := spec_l3NoBits.u) (fun _ _ h => h) (call := D23) (lp := fun n => noL) (D23_ok hX) (fun n => noL_ok) (fun n v K => by kernel_rfl)
def D24 (n : Nat) : CallF := orC 121 spec_l3NoBits.a (spec_l3NoBits.u n) (D23 n)
theorem D24_ok : ∀ n g a K, D24 n g a K → callM C X0 n g a K := fun n => orC_ok (spec_l3NoBits_ok hX n) (D23_ok hX n)
abbrev spec_l1Bit.a : List TS := [.a [.o (.int .i64), .o (.dat 155 (.int .u64))], .c (.o (.int .i64))]
def spec_l1Bit.u (n : Nat) (v : VA spec_l1Bit.a) (K : RES → Prop) : Prop := spec_l1Bit.c n v.1.1 v.1.2.1 v.2.1 (fun r0 => K ⟨.c (.int .u8 r0), []⟩)
theorem spec_l1Bit_ok : ∀ n v K, spec_l1Bit.u n v K → callM C X0 n 159 (fillA spec_l1Bit.a v) K :=
 call_tell hX (fn := Try.f159) (c := bodyOf Try.f159) (by kernel_rfl) (by kernel_rfl) (A := spec_l1Bit.a) (u := spec_l1Bit.u) (fun _ _ h => h) (call := D24) (lp := fun n => noL) (D24_ok hX) (fun n => noL_ok) (fun n v K => by kernel_rfl)
def D25 (n : Nat) : CallF := orC 159 spec_l1Bit.a (spec_l1Bit.u n) (D24 n)
theorem D25_ok : ∀ n g a K, D25 n g a K → callM C X0 n g a K := fun n => orC_ok (spec_l1Bit_ok hX n) (D24_ok hX n)
abbrev spec_BitsOk.a : List TS := [.a [.o (.int .i64), .o (.dat 155 (.int .u64))]]
def spec_BitsOk.u (n : Nat) (v : VA spec_BitsOk.a) (K : RES → Prop) : Prop := spec_BitsOk.c n v.1.1 v.1.2.1 (fun r0 => K ⟨.c (.bool r0), []⟩)
abbrev spec_BitsOk.l4.s : ST := ⟨[(1, .c (.o (.pbox 1 0))), (3, .c (.o (.int .i64)))], [], [⟨1, 58, [.o (.int .i64), .o (.dat 155 (.int .u64))], false⟩], [], []⟩
def spec_BitsOk.l4.u (n : Nat) (v : spec_BitsOk.l4.s.V) (K : X → St → Prop) : Prop := spec_BitsOk.l4 n v.2.2.1.1 v.2.2.1.2.1 v.1.2.1 (K (.exit 0) ⟨[], [], [], [], []⟩) (fun y0 => K .ret ⟨[(2, .c (.bool y0))], [], [], [], []⟩)
theorem spec_BitsOk.l4_ok : ∀ n v K, spec_BitsOk.l4.u n v K → loopM C X0 n 87 4 (spec_BitsOk.l4.s.fill v) K :=
 loop_tell hX (fn := Try.f87) (c := bodyOf Try.f87) (a := loopOf Try.f87 4) (li := liOf (C.fi 87).loops 4) (by kernel_rfl) (by kernel_rfl) (of_decide_eq_true rfl) (by kernel_rfl) (by kernel_rfl) (T := spec_BitsOk.l4.s) (u := spec_BitsOk.l4.u) (fun _ _ h => h) (call := D25) (lp := fun n => noL) (D25_ok hX) (fun n => noL_ok) (fun n v K => by kernel_rfl)
theorem spec_BitsOk_ok : ∀ n v K, spec_BitsOk.u n v K → callM C X0 n 87 (fillA spec_BitsOk.a v) K :=
 call_tell hX (fn := Try.f87) (c := bodyOf Try.f87) (by kernel_rfl) (by kernel_rfl) (A := spec_BitsOk.a) (u := spec_BitsOk.u) (fun _ _ h => h) (call := D25) (lp := fun n => orL 4 spec_BitsOk.l4.s (spec_BitsOk.l4.u n) noL) (D25_ok hX) (fun n => (orL_ok (spec_BitsOk.l4_ok hX n) noL_ok)) (fun n v K => by kernel_rfl)
def D26 (n : Nat) : CallF := orC 87 spec_BitsOk.a (spec_BitsOk.u n) (D25 n)
theorem D26_ok : ∀ n g a K, D26 n g a K → callM C X0 n g a K := fun n => orC_ok (spec_BitsOk_ok hX n) (D25_ok hX n)
abbrev spec_GraphOk.a : List TS := [.a [.o (.dat 2 (.int .i64)), .o (.dat 123 (.prod (.int .i64) (.prod (.int .i64) (.prod (.int .i64) (.sl 155 (.int .u64))))))]]
def spec_GraphOk.u (n : Nat) (v : VA spec_GraphOk.a) (K : RES → Prop) : Prop := spec_GraphOk.c n v.1.1 v.1.2.1 (fun r0 => K ⟨.c (.bool r0), []⟩)
abbrev spec_GraphOk.l5.s : ST := ⟨[(1, .c (.o (.pbox 1 0))), (3, .c (.o (.int .i64))), (4, .c (.o (.int .i64)))], [], [⟨1, 42, [.o (.dat 2 (.int .i64)), .o (.dat 123 (.prod (.int .i64) (.prod (.int .i64) (.prod (.int .i64) (.sl 155 (.int .u64))))))], false⟩], [], []⟩
def spec_GraphOk.l5.u (n : Nat) (v : spec_GraphOk.l5.s.V) (K : X → St → Prop) : Prop := spec_GraphOk.l5 n v.1.2.1 v.2.2.1.1 v.2.2.1.2.1 v.1.2.2.1 (fun y0 y1 y2 => K (.exit 0) ⟨[(1, .c (.pbox 1 0)), (3, .c (.int .i64 y0))], [], [(1, ⟨42, [.dat 2 (.int .i64) y1, .dat 123 (.prod (.int .i64) (.prod (.int .i64) (.prod (.int .i64) (.sl 155 (.int .u64))))) y2], false⟩)], [], []⟩) (fun y0 => K .ret ⟨[(2, .c (.bool y0))], [], [], [], []⟩)
abbrev spec_GraphOk.q14.s : ST := ⟨[(1, .c (.o (.pbox 1 0))), (3, .c (.o (.int .i64))), (5, .c (.o (.int .i64))), (6, .c (.o (.pbox 6 0))), (64, .c (.o .bool))], [], [⟨1, 42, [.o (.dat 2 (.int .i64)), .o (.dat 123 (.prod (.int .i64) (.prod (.int .i64) (.prod (.int .i64) (.sl 155 (.int .u64))))))], false⟩, ⟨6, 123, [.o (.int .i64), .o (.int .i64), .o (.int .i64), .o (.dat 155 (.int .u64))], false⟩], [], []⟩
def spec_GraphOk.q14.u (n : Nat) (v : spec_GraphOk.q14.s.V) (K : X → St → Prop) : Prop := spec_GraphOk.q14 n v.1.2.1 v.1.2.2.1 v.1.2.2.2.2.1 v.2.2.1.1 v.2.2.1.2.1 v.2.2.2.1.1 v.2.2.2.1.2.1 v.2.2.2.1.2.2.1 v.2.2.2.1.2.2.2.1 (fun y0 => K .ret ⟨[(2, .c (.bool y0))], [], [], [], []⟩) (fun y0 y1 y2 y3 y4 y5 y6 y7 => K .normal ⟨[(1, .c (.pbox 1 0)), (3, .c (.int .i64 y0)), (5, .c (.int .i64 y1)), (6, .c (.pbox 6 0))], [], [(1, ⟨42, [.dat 2 (.int .i64) y2, .dat 123 (.prod (.int .i64) (.prod (.int .i64) (.prod (.int .i64) (.sl 155 (.int .u64))))) y3], false⟩), (6, ⟨123, [.int .i64 y4, .int .i64 y5, .int .i64 y6, .dat 155 (.int .u64) y7], false⟩)], [], []⟩)
abbrev spec_GraphOk.q15.s : ST := ⟨[(1, .c (.o (.pbox 1 0))), (3, .c (.o (.int .i64))), (5, .c (.o (.int .i64))), (6, .c (.o (.pbox 6 0)))], [], [⟨1, 42, [.o (.dat 2 (.int .i64)), .o (.dat 123 (.prod (.int .i64) (.prod (.int .i64) (.prod (.int .i64) (.sl 155 (.int .u64))))))], false⟩, ⟨6, 123, [.o (.int .i64), .o (.int .i64), .o (.int .i64), .o (.dat 155 (.int .u64))], false⟩], [], []⟩
def spec_GraphOk.q15.u (n : Nat) (v : spec_GraphOk.q15.s.V) (K : X → St → Prop) : Prop := spec_GraphOk.q15 n v.1.2.1 v.1.2.2.1 v.2.2.1.1 v.2.2.1.2.1 v.2.2.2.1.1 v.2.2.2.1.2.1 v.2.2.2.1.2.2.1 v.2.2.2.1.2.2.2.1 (fun y0 => K .ret ⟨[(2, .c (.bool y0))], [], [], [], []⟩) (fun y0 y1 y2 y3 => K .normal ⟨[(1, .c (.pbox 1 0)), (3, .c (.int .i64 y0)), (5, .c (.int .i64 y1))], [], [(1, ⟨42, [.dat 2 (.int .i64) y2, .dat 123 (.prod (.int .i64) (.prod (.int .i64) (.prod (.int .i64) (.sl 155 (.int .u64))))) y3], false⟩)], [], []⟩)
abbrev spec_GraphOk.l10.s : ST := ⟨[(1, .c (.o (.pbox 1 0))), (3, .c (.o (.int .i64))), (5, .c (.o (.int .i64)))], [], [⟨1, 42, [.o (.dat 2 (.int .i64)), .o (.dat 123 (.prod (.int .i64) (.prod (.int .i64) (.prod (.int .i64) (.sl 155 (.int .u64))))))], false⟩], [], []⟩
def spec_GraphOk.l10.u (n : Nat) (v : spec_GraphOk.l10.s.V) (K : X → St → Prop) : Prop := spec_GraphOk.l10 n v.1.2.1 v.1.2.2.1 v.2.2.1.1 v.2.2.1.2.1 (K (.exit 2) ⟨[], [], [], [], []⟩) (fun y0 => K .ret ⟨[(2, .c (.bool y0))], [], [], [], []⟩)
theorem spec_GraphOk.l5_ok : ∀ n v K, spec_GraphOk.l5.u n v K → loopM C X0 n 46 5 (spec_GraphOk.l5.s.fill v) K :=
 loop_tell hX (fn := Try.f46) (c := bodyOf Try.f46) (a := loopOf Try.f46 5) (li := liOf (C.fi 46).loops 5) (by kernel_rfl) (by kernel_rfl) (of_decide_eq_true rfl) (by kernel_rfl) (by kernel_rfl) (T := spec_GraphOk.l5.s) (u := spec_GraphOk.l5.u) (fun _ _ h => h) (call := D26) (lp := fun n => noL) (D26_ok hX) (fun n => noL_ok) (fun n v K => by kernel_rfl)
theorem spec_GraphOk.q14_ok : ∀ n v K, spec_GraphOk.q14.u n v K → loopM C X0 n 46 1000014 (spec_GraphOk.q14.s.fill v) K :=
 cut_tell hX (fn := Try.f46) (c := bodyOf Try.f46) (a := cutOf Try.f46 14) (li := liOf (C.fi 46).loops 1000014) (by kernel_rfl) (by kernel_rfl) (of_decide_eq_true rfl) (by kernel_rfl) (by kernel_rfl) (T := spec_GraphOk.q14.s) (u := spec_GraphOk.q14.u) (fun _ _ h => h) (call := D26) (lp := fun n => noL) (D26_ok hX) (fun n => noL_ok) (fun n v K => by kernel_rfl)
theorem spec_GraphOk.q15_ok : ∀ n v K, spec_GraphOk.q15.u n v K → loopM C X0 n 46 1000015 (spec_GraphOk.q15.s.fill v) K :=
 cut_tell hX (fn := Try.f46) (c := bodyOf Try.f46) (a := cutOf Try.f46 15) (li := liOf (C.fi 46).loops 1000015) (by kernel_rfl) (by kernel_rfl) (of_decide_eq_true rfl) (by kernel_rfl) (by kernel_rfl) (T := spec_GraphOk.q15.s) (u := spec_GraphOk.q15.u) (fun _ _ h => h) (call := D26) (lp := fun n => noL) (D26_ok hX) (fun n => noL_ok) (fun n v K => by kernel_rfl)
theorem spec_GraphOk.l10_ok : ∀ n v K, spec_GraphOk.l10.u n v K → loopM C X0 n 46 10 (spec_GraphOk.l10.s.fill v) K :=
 loop_tell hX (fn := Try.f46) (c := bodyOf Try.f46) (a := loopOf Try.f46 10) (li := liOf (C.fi 46).loops 10) (by kernel_rfl) (by kernel_rfl) (of_decide_eq_true rfl) (by kernel_rfl) (by kernel_rfl) (T := spec_GraphOk.l10.s) (u := spec_GraphOk.l10.u) (fun _ _ h => h) (call := D26) (lp := fun n => orL 1000014 spec_GraphOk.q14.s (spec_GraphOk.q14.u n) (orL 1000015 spec_GraphOk.q15.s (spec_GraphOk.q15.u n) noL)) (D26_ok hX) (fun n => (orL_ok (spec_GraphOk.q14_ok hX n) (orL_ok (spec_GraphOk.q15_ok hX n) noL_ok))) (fun n v K => by kernel_rfl)
theorem spec_GraphOk_ok : ∀ n v K, spec_GraphOk.u n v K → callM C X0 n 46 (fillA spec_GraphOk.a v) K :=
 call_tell hX (fn := Try.f46) (c := bodyOf Try.f46) (by kernel_rfl) (by kernel_rfl) (A := spec_GraphOk.a) (u := spec_GraphOk.u) (fun _ _ h => h) (call := D26) (lp := fun n => orL 5 spec_GraphOk.l5.s (spec_GraphOk.l5.u n) (orL 10 spec_GraphOk.l10.s (spec_GraphOk.l10.u n) noL)) (D26_ok hX) (fun n => (orL_ok (spec_GraphOk.l5_ok hX n) (orL_ok (spec_GraphOk.l10_ok hX n) noL_ok))) (fun n v K => by kernel_rfl)
def D27 (n : Nat) : CallF := orC 46 spec_GraphOk.a (spec_GraphOk.u n) (D26 n)
theorem D27_ok : ∀ n g a K, D27 n g a K → callM C X0 n g a K := fun n => orC_ok (spec_GraphOk_ok hX n) (D26_ok hX n)
abbrev impl_inside.a : List TS := [.c (.o (.int .i64)), .c (.o (.int .i64)), .c (.o (.int .i64))]
def impl_inside.u (n : Nat) (v : VA impl_inside.a) (K : RES → Prop) : Prop := impl_inside.c n v.1 v.2.1 v.2.2.1 (fun r0 => K ⟨.c (.bool r0), []⟩)
theorem impl_inside_ok : ∀ n v K, impl_inside.u n v K → callM C X0 n 108 (fillA impl_inside.a v) K :=
 call_tell hX (fn := Try.f108) (c := bodyOf Try.f108) (by kernel_rfl) (by kernel_rfl) (A := impl_inside.a) (u := impl_inside.u) (fun _ _ h => h) (call := D27) (lp := fun n => noL) (D27_ok hX) (fun n => noL_ok) (fun n v K => by kernel_rfl)
def D28 (n : Nat) : CallF := orC 108 impl_inside.a (impl_inside.u n) (D27 n)
theorem D28_ok : ∀ n g a K, D28 n g a K → callM C X0 n g a K := fun n => orC_ok (impl_inside_ok hX n) (D27_ok hX n)
abbrev impl_wordsFor.a : List TS := [.c (.o (.int .i64))]
def impl_wordsFor.u (n : Nat) (v : VA impl_wordsFor.a) (K : RES → Prop) : Prop := impl_wordsFor.c n v.1 (fun r0 => K ⟨.c (.int .i64 r0), []⟩)
theorem impl_wordsFor_ok : ∀ n v K, impl_wordsFor.u n v K → callM C X0 n 164 (fillA impl_wordsFor.a v) K :=
 call_tell hX (fn := Try.f164) (c := bodyOf Try.f164) (by kernel_rfl) (by kernel_rfl) (A := impl_wordsFor.a) (u := impl_wordsFor.u) (fun _ _ h => h) (call := D28) (lp := fun n => noL) (D28_ok hX) (fun n => noL_ok) (fun n v K => by kernel_rfl)
def D29 (n : Nat) : CallF := orC 164 impl_wordsFor.a (impl_wordsFor.u n) (D28 n)
theorem D29_ok : ∀ n g a K, D29 n g a K → callM C X0 n g a K := fun n => orC_ok (impl_wordsFor_ok hX n) (D28_ok hX n)
abbrev impl_BitsOk.a : List TS := [.a [.o (.int .i64), .o (.dat 155 (.int .u64))]]
def impl_BitsOk.u (n : Nat) (v : VA impl_BitsOk.a) (K : RES → Prop) : Prop := impl_BitsOk.c n v.1.1 v.1.2.1 (fun r0 => K ⟨.c (.bool r0), []⟩)
theorem impl_BitsOk_ok : ∀ n v K, impl_BitsOk.u n v K → callM C X0 n 93 (fillA impl_BitsOk.a v) K :=
 call_tell hX (fn := Try.f93) (c := bodyOf Try.f93) (by kernel_rfl) (by kernel_rfl) (A := impl_BitsOk.a) (u := impl_BitsOk.u) (fun _ _ h => h) (call := D29) (lp := fun n => noL) (D29_ok hX) (fun n => noL_ok) (fun n v K => by kernel_rfl)
def D30 (n : Nat) : CallF := orC 93 impl_BitsOk.a (impl_BitsOk.u n) (D29 n)
theorem D30_ok : ∀ n g a K, D30 n g a K → callM C X0 n g a K := fun n => orC_ok (impl_BitsOk_ok hX n) (D29_ok hX n)
abbrev impl_barOk.a : List TS := [.c (.o (.dat 2 (.int .i64))), .a [.o (.int .i64), .o (.int .i64), .o (.int .i64), .o (.dat 155 (.int .u64))]]
def impl_barOk.u (n : Nat) (v : VA impl_barOk.a) (K : RES → Prop) : Prop := impl_barOk.c n v.1 v.2.1.1 v.2.1.2.1 v.2.1.2.2.1 v.2.1.2.2.2.1 (fun r0 => K ⟨.c (.bool r0), []⟩)
theorem impl_barOk_ok : ∀ n v K, impl_barOk.u n v K → callM C X0 n 163 (fillA impl_barOk.a v) K :=
 call_tell hX (fn := Try.f163) (c := bodyOf Try.f163) (by kernel_rfl) (by kernel_rfl) (A := impl_barOk.a) (u := impl_barOk.u) (fun _ _ h => h) (call := D30) (lp := fun n => noL) (D30_ok hX) (fun n => noL_ok) (fun n v K => by kernel_rfl)
def D31 (n : Nat) : CallF := orC 163 impl_barOk.a (impl_barOk.u n) (D30 n)
theorem D31_ok : ∀ n g a K, D31 n g a K → callM C X0 n g a K := fun n => orC_ok (impl_barOk_ok hX n) (D30_ok hX n)
abbrev impl_GraphOk_1.a : List TS := [.a [.o (.int .i64), .o (.int .i64), .o (.int .i64), .o (.dat 155 (.int .u64))], .c (.o (.pdat 42 (.prod (.sl 2 (.int .i64)) (.sl 123 (.prod (.int .i64) (.prod (.int .i64) (.prod (.int .i64) (.sl 155 (.int .u64))))))) 0))]
def impl_GraphOk_1.u (n : Nat) (v : VA impl_GraphOk_1.a) (K : RES → Prop) : Prop := impl_GraphOk_1.c n v.1.1 v.1.2.1 v.1.2.2.1 v.1.2.2.2.1 v.2.1 (fun r0 => K ⟨.c (.bool r0), []⟩)
theorem impl_GraphOk_1_ok : ∀ n v K, impl_GraphOk_1.u n v K → callM C X0 n 162 (fillA impl_GraphOk_1.a v) K :=
 call_tell hX (fn := Try.f162) (c := bodyOf Try.f162) (by kernel_rfl) (by kernel_rfl) (A := impl_GraphOk_1.a) (u := impl_GraphOk_1.u) (fun _ _ h => h) (call := D31) (lp := fun n => noL) (D31_ok hX) (fun n => noL_ok) (fun n v K => by kernel_rfl)
def D32 (n : Nat) : CallF := orC 162 impl_GraphOk_1.a (impl_GraphOk_1.u n) (D31 n)
theorem D32_ok : ∀ n g a K, D32 n g a K → callM C X0 n g a K := fun n => orC_ok (impl_GraphOk_1_ok hX n) (D31_ok hX n)
abbrev slices_IndexFunc_Bar__impl_GraphOk_1.a : List TS := [.c (.o (.dat 123 (.prod (.int .i64) (.prod (.int .i64) (.prod (.int .i64) (.sl 155 (.int .u64))))))), .c (.fn 162 [(false, 1)] 0 [.pdat 42 (.prod (.sl 2 (.int .i64)) (.sl 123 (.prod (.int .i64) (.prod (.int .i64) (.prod (.int .i64) (.sl 155 (.int .u64))))))) 0])]
def slices_IndexFunc_Bar__impl_GraphOk_1.u (n : Nat) (v : VA slices_IndexFunc_Bar__impl_GraphOk_1.a) (K : RES → Prop) : Prop := slices_IndexFunc_Bar__impl_GraphOk_1.c n v.1 v.2.1.1 (fun r0 => K ⟨.c (.int .i64 r0), []⟩)
abbrev slices_IndexFunc_Bar__impl_GraphOk_1.l2.s : ST := ⟨[(0, .c (.o (.dat 123 (.prod (.int .i64) (.prod (.int .i64) (.prod (.int .i64) (.sl 155 (.int .u64)))))))), (1, .c (.fn 162 [(false, 1)] 0 [.pdat 42 (.prod (.sl 2 (.int .i64)) (.sl 123 (.prod (.int .i64) (.prod (.int .i64) (.prod (.int .i64) (.sl 155 (.int .u64))))))) 0])), (7, .c (.o (.int .i64))), (8, .c (.o (.int .i64)))], [], [], [], []⟩
def slices_IndexFunc_Bar__impl_GraphOk_1.l2.u (n : Nat) (v : slices_IndexFunc_Bar__impl_GraphOk_1.l2.s.V) (K : X → St → Prop) : Prop := slices_IndexFunc_Bar__impl_GraphOk_1.l2 n v.1.1 v.1.2.1.1 v.1.2.2.1 v.1.2.2.2.1 (K (.exit 0) ⟨[], [], [], [], []⟩) (fun y0 => K .ret ⟨[(4, .c (.int .i64 y0))], [], [], [], []⟩)
theorem slices_IndexFunc_Bar__impl_GraphOk_1.l2_ok : ∀ n v K, slices_IndexFunc_Bar__impl_GraphOk_1.l2.u n v K → loopM C X0 n 165 2 (slices_IndexFunc_Bar__impl_GraphOk_1.l2.s.fill v) K :=
 loop_tell hX (fn := Try.f165) (c := bodyOf Try.f165) (a := loopOf Try.f165 2) (li := liOf (C.fi 165).loops 2) (by kernel_rfl) (by kernel_rfl) (of_decide_eq_true rfl) (by kernel_rfl) (by kernel_rfl) (T := slices_IndexFunc_Bar__impl_GraphOk_1.l2.s) (u := slices_IndexFunc_Bar__impl_GraphOk_1.l2.u) (fun _ _ h => h) (call := D32) (lp := fun n => noL) (D32_ok hX) (fun n => noL_ok) (fun n v K => by kernel_rfl)
theorem slices_IndexFunc_Bar__impl_GraphOk_1_ok : ∀ n v K, slices_IndexFunc_Bar__impl_GraphOk_1.u n v K → callM C X0 n 165 (fillA slices_IndexFunc_Bar__impl_GraphOk_1.a v) K :=
 call_tell hX (fn := Try.f165) (c := bodyOf Try.f165) (by kernel_rfl) (by kernel_rfl) (A := slices_IndexFunc_Bar__impl_GraphOk_1.a) (u := slices_IndexFunc_Bar__impl_GraphOk_1.u) (fun _ _ h => h) (call := D32) (lp := fun n => orL 2 slices_IndexFunc_Bar__impl_GraphOk_1.l2.s (slices_IndexFunc_Bar__impl_GraphOk_1.l2.u n) noL) (D32_ok hX) (fun n => (orL_ok (slices_IndexFunc_Bar__impl_GraphOk_1.l2_ok hX n) noL_ok)) (fun n v K => by kernel_rfl)
def D33 (n : Nat) : CallF := orC 165 slices_IndexFunc_Bar__impl_GraphOk_1.a (slices_IndexFunc_Bar__impl_GraphOk_1.u n) (D32 n)
theorem D33_ok : ∀ n g a K, D33 n g a K → callM C X0 n g a K := fun n => orC_ok (slices_IndexFunc_Bar__impl_GraphOk_1_ok hX n) (D32_ok hX n)
abbrev slices_ContainsFunc_Bar__impl_GraphOk_1.a : List TS := [.c (.o (.dat 123 (.prod (.int .i64) (.prod (.int .i64) (.prod (.int .i64) (.sl 155 (.int .u64))))))), .c (.fn 162 [(false, 1)] 0 [.pdat 42 (.prod (.sl 2 (.int .i64)) (.sl 123 (.prod (.int .i64) (.prod (.int .i64) (.prod (.int .i64) (.sl 155 (.int .u64))))))) 0])]
def slices_ContainsFunc_Bar__impl_GraphOk_1.u (n : Nat) (v : VA slices_ContainsFunc_Bar__impl_GraphOk_1.a) (K : RES → Prop) : Prop := slices_ContainsFunc_Bar__impl_GraphOk_1.c n v.1 v.2.1.1 (fun r0 => K ⟨.c (.bool r0), []⟩)
theorem slices_ContainsFunc_Bar__impl_GraphOk_1_ok : ∀ n v K, slices_ContainsFunc_Bar__impl_GraphOk_1.u n v K → callM C X0 n 94 (fillA slices_ContainsFunc_Bar__impl_GraphOk_1.a v) K :=
 call_tell hX (fn := Try.f94) (c := bodyOf Try.f94) (by kernel_rfl) (by kernel_rfl) (A := slices_ContainsFunc_Bar__impl_GraphOk_1.a) (u := slices_ContainsFunc_Bar__impl_GraphOk_1.u) (fun _ _ h => h) (call := D33) (lp := fun n => noL) (D33_ok hX) (fun n => noL_ok) (fun n v K => by kernel_rfl)
def D34 (n : Nat) : CallF := orC 94 slices_ContainsFunc_Bar__impl_GraphOk_1.a (slices_ContainsFunc_Bar__impl_GraphOk_1.u n) (D33 n)
theorem D34_ok : ∀ n g a K, D34 n g a K → callM C X0 n g a K := fun n => orC_ok (slices_ContainsFunc_Bar__impl_GraphOk_1_ok hX n) (D33_ok hX n)
abbrev impl_GraphOk.a : List TS := [.a [.o (.dat 2 (.int .i64)), .o (.dat 123 (.prod (.int .i64) (.prod (.int .i64) (.prod (.int .i64) (.sl 155 (.int .u64))))))]]
def impl_GraphOk.u (n : Nat) (v : VA impl_GraphOk.a) (K : RES → Prop) : Prop := impl_GraphOk.c n v.1.1 v.1.2.1 (fun r0 => K ⟨.c (.bool r0), []⟩)
abbrev impl_GraphOk.l4.s : ST := ⟨[(1, .c (.o (.pbox 1 0))), (16, .c (.o (.dat 2 (.int .i64)))), (17, .c (.o (.int .i64))), (18, .c (.o (.int .i64)))], [], [⟨1, 42, [.o (.dat 2 (.int .i64)), .o (.dat 123 (.prod (.int .i64) (.prod (.int .i64) (.prod (.int .i64) (.sl 155 (.int .u64))))))], false⟩], [], []⟩
def impl_GraphOk.l4.u (n : Nat) (v : impl_GraphOk.l4.s.V) (K : X → St → Prop) : Prop := impl_GraphOk.l4 n v.1.2.1 v.1.2.2.1 v.2.2.1.1 v.2.2.1.2.1 v.1.2.2.2.1 (fun y0 y1 => K (.exit 0) ⟨[(1, .c (.pbox 1 0))], [], [(1, ⟨42, [.dat 2 (.int .i64) y0, .dat 123 (.prod (.int .i64) (.prod (.int .i64) (.prod (.int .i64) (.sl 155 (.int .u64))))) y1], false⟩)], [], []⟩) (fun y0 => K .ret ⟨[(2, .c (.bool y0))], [], [], [], []⟩)
theorem impl_GraphOk.l4_ok : ∀ n v K, impl_GraphOk.l4.u n v K → loopM C X0 n 92 4 (impl_GraphOk.l4.s.fill v) K :=
 loop_tell hX (fn := Try.f92) (c := bodyOf Try.f92) (a := loopOf Try.f92 4) (li := liOf (C.fi 92).loops 4) (by kernel_rfl) (by kernel_rfl) (of_decide_eq_true rfl) (by kernel_rfl) (by kernel_rfl) (T := impl_GraphOk.l4.s) (u := impl_GraphOk.l4.u) (fun _ _ h => h) (call := D34) (lp := fun n => noL) (D34_ok hX) (fun n => noL_ok) (fun n v K => by kernel_rfl)
theorem impl_GraphOk_ok : ∀ n v K, impl_GraphOk.u n v K → callM C X0 n 92 (fillA impl_GraphOk.a v) K :=
 call_tell hX (fn := Try.f92) (c := bodyOf Try.f92) (by kernel_rfl) (by kernel_rfl) (A := impl_GraphOk.a) (u := impl_GraphOk.u) (fun _ _ h => h) (call := D34) (lp := fun n => orL 4 impl_GraphOk.l4.s (impl_GraphOk.l4.u n) noL) (D34_ok hX) (fun n => (orL_ok (impl_GraphOk.l4_ok hX n) noL_ok)) (fun n v K => by kernel_rfl)
def D35 (n : Nat) : CallF := orC 92 impl_GraphOk.a (impl_GraphOk.u n) (D34 n)
theorem D35_ok : ∀ n g a K, D35 n g a K → callM C X0 n g a K := fun n => orC_ok (impl_GraphOk_ok hX n) (D34_ok hX n)
abbrev laws_eqInt64S.a : List TS := [.c (.o (.dat 2 (.int .i64))), .c (.o (.dat 2 (.int .i64)))]
def laws_eqInt64S.u (n : Nat) (v : VA laws_eqInt64S.a) (K : RES → Prop) : Prop := laws_eqInt64S.c n v.1 v.2.1 (fun r0 => K ⟨.c (.bool r0), []⟩)
abbrev laws_eqInt64S.l4.s : ST := ⟨[(0, .c (.o (.dat 2 (.int .i64)))), (1, .c (.o (.dat 2 (.int .i64)))), (5, .c (.o (.int .i64)))], [], [], [], []⟩
def laws_eqInt64S.l4.u (n : Nat) (v : laws_eqInt64S.l4.s.V) (K : X → St → Prop) : Prop := laws_eqInt64S.l4 n v.1.1 v.1.2.1 v.1.2.2.1 (K (.exit 0) ⟨[], [], [], [], []⟩) (fun y0 => K .ret ⟨[(4, .c (.bool y0))], [], [], [], []⟩)
theorem laws_eqInt64S.l4_ok : ∀ n v K, laws_eqInt64S.l4.u n v K → loopM C X0 n 97 4 (laws_eqInt64S.l4.s.fill v) K :=
 loop_tell hX (fn := Try.f97) (c := bodyOf Try.f97) (a := loopOf Try.f97 4) (li := liOf (C.fi 97).loops 4) (by kernel_rfl) (by kernel_rfl) (of_decide_eq_true rfl) (by kernel_rfl) (by kernel_rfl) (T := laws_eqInt64S.l4.s) (u := laws_eqInt64S.l4.u) (fun _ _ h => h) (call := D35) (lp := fun n => noL) (D35_ok hX) (fun n => noL_ok) (fun n v K => by kernel_rfl)
theorem laws_eqInt64S_ok : ∀ n v K, laws_eqInt64S.u n v K → callM C X0 n 97 (fillA laws_eqInt64S.a v) K :=
 call_tell hX (fn := Try.f97) (c := bodyOf Try.f97) (by kernel_rfl) (by kernel_rfl) (A := laws_eqInt64S.a) (u := laws_eqInt64S.u) (fun _ _ h => h) (call := D35) (lp := fun n => orL 4 laws_eqInt64S.l4.s (laws_eqInt64S.l4.u n) noL) (D35_ok hX) (fun n => (orL_ok (laws_eqInt64S.l4_ok hX n) noL_ok)) (fun n v K => by kernel_rfl)
def D36 (n : Nat) : CallF := orC 97 laws_eqInt64S.a (laws_eqInt64S.u n) (D35 n)
theorem D36_ok : ∀ n g a K, D36 n g a K → callM C X0 n g a K := fun n => orC_ok (laws_eqInt64S_ok hX n) (D35_ok hX n)
abbrev laws_eqGraph.a : List TS := [.a [.o (.dat 2 (.int .i64)), .o (.dat 123 (.prod (.int .i64) (.prod (.int .i64) (.prod (.int .i64) (.sl 155 (.int .u64))))))], .a [.o (.dat 2 (.int .i64)), .o (.dat 123 (.prod (.int .i64) (.prod (.int .i64) (.prod (.int .i64) (.sl 155 (.int .u64))))))]]
def laws_eqGraph.u (n : Nat) (v : VA laws_eqGraph.a) (K : RES → Prop) : Prop := laws_eqGraph.c n v.1.1 v.1.2.1 v.2.1.1 v.2.1.2.1 (fun r0 => K ⟨.c (.bool r0), []⟩)
theorem laws_eqGraph_ok : ∀ n v K, laws_eqGraph.u n v K → callM C X0 n 30 (fillA laws_eqGraph.a v) K :=
 call_tell hX (fn := Try.f30) (c := bodyOf Try.f30) (by kernel_rfl) (by kernel_rfl) (A := laws_eqGraph.a) (u := laws_eqGraph.u) (fun _ _ h => h) (call := D36) (lp := fun n => noL) (D36_ok hX) (fun n => noL_ok) (fun n v K => by kernel_rfl)
def D37 (n : Nat) : CallF := orC 30 laws_eqGraph.a (laws_eqGraph.u n) (D36 n)
theorem D37_ok : ∀ n g a K, D37 n g a K → callM C X0 n g a K := fun n => orC_ok (laws_eqGraph_ok hX n) (D36_ok hX n)
abbrev spec_l1Has.a : List TS := [.c (.o (.dat 2 (.int .i64))), .c (.o (.int .i64))]
def spec_l1Has.u (n : Nat) (v : VA spec_l1Has.a) (K : RES → Prop) : Prop := spec_l1Has.c n v.1 v.2.1 (fun r0 => K ⟨.c (.bool r0), []⟩)
abbrev spec_l1Has.l2.s : ST := ⟨[(0, .c (.o (.dat 2 (.int .i64)))), (1, .c (.o (.int .i64))), (5, .c (.o (.int .i64)))], [], [], [], []⟩
def spec_l1Has.l2.u (n : Nat) (v : spec_l1Has.l2.s.V) (K : X → St → Prop) : Prop := spec_l1Has.l2 n v.1.1 v.1.2.1 v.1.2.2.1 (K (.exit 0) ⟨[], [], [], [], []⟩) (fun y0 => K .ret ⟨[(4, .c (.bool y0))], [], [], [], []⟩)
theorem spec_l1Has.l2_ok : ∀ n v K, spec_l1Has.l2.u n v K → loopM C X0 n 114 2 (spec_l1Has.l2.s.fill v) K :=
 loop_tell hX (fn := Try.f114) (c := bodyOf Try.f114) (a := loopOf Try.f114 2) (li := liOf (C.fi 114).loops 2) (by kernel_rfl) (by kernel_rfl) (of_decide_eq_true rfl) (by kernel_rfl) (by kernel_rfl) (T := spec_l1Has.l2.s) (u := spec_l1Has.l2.u) (fun _ _ h => h) (call := D37) (lp := fun n => noL) (D37_ok hX) (fun n => noL_ok) (fun n v K => by kernel_rfl)
theorem spec_l1Has_ok : ∀ n v K, spec_l1Has.u n v K → callM C X0 n 114 (fillA spec_l1Has.a v) K :=
 call_tell hX (fn := Try.f114) (c := bodyOf Try.f114) (by kernel_rfl) (by kernel_rfl) (A := spec_l1Has.a) (u := spec_l1Has.u) (fun _ _ h => h) (call := D37) (lp := fun n => orL 2 spec_l1Has.l2.s (spec_l1Has.l2.u n) noL) (D37_ok hX) (fun n => (orL_ok (spec_l1Has.l2_ok hX n) noL_ok)) (fun n v K => by kernel_rfl)
def D38 (n : Nat) : CallF := orC 114 spec_l1Has.a (spec_l1Has.u n) (D37 n)
theorem D38_ok : ∀ n g a K, D38 n g a K → callM C X0 n g a K := fun n => orC_ok (spec_l1Has_ok hX n) (D37_ok hX n)
abbrev spec_l7Rising.a : List TS := [.c (.o (.dat 2 (.int .i64)))]
def spec_l7Rising.u (n : Nat) (v : VA spec_l7Rising.a) (K : RES → Prop) : Prop := spec_l7Rising.c n v.1 (fun r0 => K ⟨.c (.row ⟨2, .int .i64, r0, 99, none⟩), []⟩)
abbrev spec_l7Rising.l8.s : ST := ⟨[(0, .c (.o (.dat 2 (.int .i64)))), (3, .c (.o (.own 864))), (4, .c (.o (.int .i64))), (5, .c (.o (.int .i64)))], [⟨864, 2, .int .i64, 99⟩], [], [], []⟩
def spec_l7Rising.l8.u (n : Nat) (v : spec_l7Rising.l8.s.V) (K : X → St → Prop) : Prop := spec_l7Rising.l8 n v.1.1 v.1.2.2.1 v.1.2.2.2.1 v.2.1.1 (fun y0 y1 y2 y3 => K (.exit 2) ⟨[(0, .c (.dat 2 (.int .i64) y0)), (3, .c (.own 864)), (4, .c (.int .i64 y1)), (5, .c (.int .i64 y2))], [(864, ⟨2, .int .i64, y3, 99, none⟩)], [], [], []⟩)
abbrev spec_l7Rising.l3.s : ST := ⟨[(0, .c (.o (.dat 2 (.int .i64)))), (3, .c (.o (.own 96))), (4, .c (.o (.int .i64)))], [⟨96, 2, .int .i64, 99⟩], [], [], []⟩
def spec_l7Rising.l3.u (n : Nat) (v : spec_l7Rising.l3.s.V) (K : X → St → Prop) : Prop := spec_l7Rising.l3 n v.1.1 v.1.2.2.1 v.2.1.1 (fun y0 => K (.exit 0) ⟨[(3, .c (.own 96))], [(96, ⟨2, .int .i64, y0, 99, none⟩)], [], [], []⟩)
theorem spec_l7Rising.l8_ok : ∀ n v K, spec_l7Rising.l8.u n v K → loopM C X0 n 172 8 (spec_l7Rising.l8.s.fill v) K :=
 loop_tell hX (fn := Try.f172) (c := bodyOf Try.f172) (a := loopOf Try.f172 8) (li := liOf (C.fi 172).loops 8) (by kernel_rfl) (by kernel_rfl) (of_decide_eq_true rfl) (by kernel_rfl) (by kernel_rfl) (T := spec_l7Rising.l8.s) (u := spec_l7Rising.l8.u) (fun _ _ h => h) (call := D38) (lp := fun n => noL) (D38_ok hX) (fun n => noL_ok) (fun n v K => by kernel_rfl)
theorem spec_l7Rising.l3_ok : ∀ n v K, spec_l7Rising.l3.u n v K → loopM C X0 n 172 3 (spec_l7Rising.l3.s.fill v) K :=
 loop_tell hX (fn := Try.f172) (c := bodyOf Try.f172) (a := loopOf Try.f172 3) (li := liOf (C.fi 172).loops 3) (by kernel_rfl) (by kernel_rfl) (of_decide_eq_true rfl) (by kernel_rfl) (by kernel_rfl) (T := spec_l7Rising.l3.s) (u := spec_l7Rising.l3.u) (fun _ _ h => h) (call := D38) (lp := fun n => orL 8 spec_l7Rising.l8.s (spec_l7Rising.l8.u n) noL) (D38_ok hX) (fun n => (orL_ok (spec_l7Rising.l8_ok hX n) noL_ok)) (fun n v K => by kernel_rfl)
theorem spec_l7Rising_ok : ∀ n v K, spec_l7Rising.u n v K → callM C X0 n 172 (fillA spec_l7Rising.a v) K :=
 call_tell hX (fn := Try.f172) (c := bodyOf Try.f172) (by kernel_rfl) (by kernel_rfl) (A := spec_l7Rising.a) (u := spec_l7Rising.u) (fun _ _ h => h) (call := D38) (lp := fun n => orL 3 spec_l7Rising.l3.s (spec_l7Rising.l3.u n) noL) (D38_ok hX) (fun n => (orL_ok (spec_l7Rising.l3_ok hX n) noL_ok)) (fun n v K => by kernel_rfl)
def D39 (n : Nat) : CallF := orC 172 spec_l7Rising.a (spec_l7Rising.u n) (D38 n)
theorem D39_ok : ∀ n g a K, D39 n g a K → callM C X0 n g a K := fun n => orC_ok (spec_l7Rising_ok hX n) (D38_ok hX n)
abbrev spec_l10Crowd.a : List TS := [.a [.o (.dat 2 (.int .i64)), .o (.dat 123 (.prod (.int .i64) (.prod (.int .i64) (.prod (.int .i64) (.sl 155 (.int .u64))))))], .c (.o (.int .i64))]
def spec_l10Crowd.u (n : Nat) (v : VA spec_l10Crowd.a) (K : RES → Prop) : Prop := spec_l10Crowd.c n v.1.1 v.1.2.1 v.2.1 (fun r0 => K ⟨.c (.int .i64 r0), []⟩)
abbrev spec_l10Crowd.l4.s : ST := ⟨[(1, .c (.o (.int .i64))), (2, .c (.o (.pbox 2 0))), (5, .c (.o (.own 160))), (6, .c (.o (.own 192))), (7, .c (.o (.int .i64)))], [⟨160, 2, .int .i64, 99⟩, ⟨192, 123, .prod (.int .i64) (.prod (.int .i64) (.prod (.int .i64) (.sl 155 (.int .u64)))), 99⟩], [⟨2, 42, [.o (.dat 2 (.int .i64)), .o (.dat 123 (.prod (.int .i64) (.prod (.int .i64) (.prod (.int .i64) (.sl 155 (.int .u64))))))], false⟩], [], []⟩
def spec_l10Crowd.l4.u (n : Nat) (v : spec_l10Crowd.l4.s.V) (K : X → St → Prop) : Prop := spec_l10Crowd.l4 n v.1.1 v.2.2.1.1 v.2.2.1.2.1 v.1.2.2.2.2.1 v.2.1.1 v.2.1.2.1 (fun y0 y1 => K (.exit 0) ⟨[(5, .c (.own 160)), (6, .c (.own 192))], [(160, ⟨2, .int .i64, y0, 99, none⟩), (192, ⟨123, .prod (.int .i64) (.prod (.int .i64) (.prod (.int .i64) (.sl 155 (.int .u64)))), y1, 99, none⟩)], [], [], []⟩)
theorem spec_l10Crowd.l4_ok : ∀ n v K, spec_l10Crowd.l4.u n v K → loopM C X0 n 104 4 (spec_l10Crowd.l4.s.fill v) K :=
 loop_tell hX (fn := Try.f104) (c := bodyOf Try.f104) (a := loopOf Try.f104 4) (li := liOf (C.fi 104).loops 4) (by kernel_rfl) (by kernel_rfl) (of_decide_eq_true rfl) (by kernel_rfl) (by kernel_rfl) (T := spec_l10Crowd.l4.s) (u := spec_l10Crowd.l4.u) (fun _ _ h => h) (call := D39) (lp := fun n => noL) (D39_ok hX) (fun n => noL_ok) (fun n v K => by kernel_rfl)
theorem spec_l10Crowd_ok : ∀ n v K, spec_l10Crowd.u n v K → callM C X0 n 104 (fillA spec_l10Crowd.a v) K :=
 call_tell hX (fn := Try.f104) (c := bodyOf Try.f104) (by kernel_rfl) (by kernel_rfl) (A := spec_l10Crowd.a) (u := spec_l10Crowd.u) (fun _ _ h => h) (call := D39) (lp := fun n => orL 4 spec_l10Crowd.l4.s (spec_l10Crowd.l4.u n) noL) (D39_ok hX) (fun n => (orL_ok (spec_l10Crowd.l4_ok hX n) noL_ok)) (fun n v K => by kernel_rfl)
def D40 (n : Nat) : CallF := orC 104 spec_l10Crowd.a (spec_l10Crowd.u n) (D39 n)
theorem D40_ok : ∀ n g a K, D40 n g a K → callM C X0 n g a K := fun n => orC_ok (spec_l10Crowd_ok hX n) (D39_ok hX n)
abbrev spec_CrowdOf.a : List TS := [.a [.o (.dat 2 (.int .i64)), .o (.dat 123 (.prod (.int .i64) (.prod (.int .i64) (.prod (.int .i64) (.sl 155 (.int .u64))))))], .c (.o (.int .i64))]
def spec_CrowdOf.u (n : Nat) (v : VA spec_CrowdOf.a) (K : RES → Prop) : Prop := spec_CrowdOf.c n v.1.1 v.1.2.1 v.2.1 (fun r0 => K ⟨.c (.int .i64 r0), []⟩)
theorem spec_CrowdOf_ok : ∀ n v K, spec_CrowdOf.u n v K → callM C X0 n 43 (fillA spec_CrowdOf.a v) K :=
 call_tell hX (fn := Try.f43) (c := bodyOf Try.f43) (by kernel_rfl) (by kernel_rfl) (A := spec_CrowdOf.a) (u := spec_CrowdOf.u) (fun _ _ h => h) (call := D40) (lp := fun n => noL) (D40_ok hX) (fun n => noL_ok) (fun n v K => by kernel_rfl)
def D41 (n : Nat) : CallF := orC 43 spec_CrowdOf.a (spec_CrowdOf.u n) (D40 n)
theorem D41_ok : ∀ n g a K, D41 n g a K → callM C X0 n g a K := fun n => orC_ok (spec_CrowdOf_ok hX n) (D40_ok hX n)
abbrev slices_Index_int64.a : List TS := [.c (.o (.dat 2 (.int .i64))), .c (.o (.int .i64))]
def slices_Index_int64.u (n : Nat) (v : VA slices_Index_int64.a) (K : RES → Prop) : Prop := slices_Index_int64.c n v.1 v.2.1 (fun r0 => K ⟨.c (.int .i64 r0), []⟩)
abbrev slices_Index_int64.l2.s : ST := ⟨[(0, .c (.o (.dat 2 (.int .i64)))), (1, .c (.o (.int .i64))), (7, .c (.o (.int .i64))), (8, .c (.o (.int .i64)))], [], [], [], []⟩
def slices_Index_int64.l2.u (n : Nat) (v : slices_Index_int64.l2.s.V) (K : X → St → Prop) : Prop := slices_Index_int64.l2 n v.1.1 v.1.2.1 v.1.2.2.1 v.1.2.2.2.1 (K (.exit 0) ⟨[], [], [], [], []⟩) (fun y0 => K .ret ⟨[(4, .c (.int .i64 y0))], [], [], [], []⟩)
theorem slices_Index_int64.l2_ok : ∀ n v K, slices_Index_int64.l2.u n v K → loopM C X0 n 208 2 (slices_Index_int64.l2.s.fill v) K :=
 loop_tell hX (fn := Try.f208) (c := bodyOf Try.f208) (a := loopOf Try.f208 2) (li := liOf (C.fi 208).loops 2) (by kernel_rfl) (by kernel_rfl) (of_decide_eq_true rfl) (by kernel_rfl) (by kernel_rfl) (T := slices_Index_int64.l2.s) (u := slices_Index_int64.l2.u) (fun _ _ h => h) (call := D41) (lp := fun n => noL) (D41_ok hX) (fun n => noL_ok) (fun n v K => by kernel_rfl)
theorem slices_Index_int64_ok : ∀ n v K, slices_Index_int64.u n v K → callM C X0 n 208 (fillA slices_Index_int64.a v) K :=
 call_tell hX (fn := Try.f208) (c := bodyOf Try.f208) (by kernel_rfl) (by kernel_rfl) (A := slices_Index_int64.a) (u := slices_Index_int64.u) (fun _ _ h => h) (call := D41) (lp := fun n => orL 2 slices_Index_int64.l2.s (slices_Index_int64.l2.u n) noL) (D41_ok hX) (fun n => (orL_ok (slices_Index_int64.l2_ok hX n) noL_ok)) (fun n v K => by kernel_rfl)
def D42 (n : Nat) : CallF := orC 208 slices_Index_int64.a (slices_Index_int64.u n) (D41 n)
theorem D42_ok : ∀ n g a K, D42 n g a K → callM C X0 n g a K := fun n => orC_ok (slices_Index_int64_ok hX n) (D41_ok hX n)
end
end Go.Vsi
end

section
set_option linter.unusedVariables false
namespace Go.Vsi
open Go.Proofs
section
variable {X0 : CallF} (hX : CallF.Mono X0)
include hX
abbrev slices_Contains_int64.a : List TS := [.c (.o (.dat 2 (.int .i64))), .c (.o (.int .i64))]
def slices_Contains_int64.u (n : Nat) (v : VA slices_Contains_int64.a) (K : RES → Prop) : Prop := slices_Contains_int64.c n v.1 v.2.1 (fun r0 => K ⟨.c (.bool r0), []⟩)
theorem slices_Contains_int64_ok : ∀ n v K, slices_Contains_int64.u n v K → callM C X0 n 183 (fillA slices_Contains_int64.a v) K :=
 call_tell hX (fn := Try.f183) (c := bodyOf Try.f183) (by kernel_rfl) (by kernel_rfl) (A := slices_Contains_int64.a) (u := slices_Contains_int64.u) (fun _ _ h => h) (call := D42) (lp := fun n => noL) (D42_ok hX) (fun n => noL_ok) (fun n v K => by kernel_rfl)
def D43 (n : Nat) : CallF := orC 183 slices_Contains_int64.a (slices_Contains_int64.u n) (D42 n)
theorem D43_ok : ∀ n g a K, D43 n g a K → callM C X0 n g a K := fun n => orC_ok (slices_Contains_int64_ok hX n) (D42_ok hX n)
abbrev slices_IndexFunc_Bits__impl_Bits_same.a : List TS := [.c (.o (.dat 58 (.prod (.int .i64) (.sl 155 (.int .u64))))), .c (.fn 96 [(true, 2)] 1 [.int .i64, .dat 155 (.int .u64)])]
def slices_IndexFunc_Bits__impl_Bits_same.u (n : Nat) (v : VA slices_IndexFunc_Bits__impl_Bits_same.a) (K : RES → Prop) : Prop := slices_IndexFunc_Bits__impl_Bits_same.c n v.1 v.2.1.1 v.2.1.2.1 (fun r0 => K ⟨.c (.int .i64 r0), []⟩)
abbrev slices_IndexFunc_Bits__impl_Bits_same.l2.s : ST := ⟨[(0, .c (.o (.dat 58 (.prod (.int .i64) (.sl 155 (.int .u64)))))), (1, .c (.fn 96 [(true, 2)] 1 [.int .i64, .dat 155 (.int .u64)])), (7, .c (.o (.int .i64))), (8, .c (.o (.int .i64)))], [], [], [], []⟩
def slices_IndexFunc_Bits__impl_Bits_same.l2.u (n : Nat) (v : slices_IndexFunc_Bits__impl_Bits_same.l2.s.V) (K : X → St → Prop) : Prop := slices_IndexFunc_Bits__impl_Bits_same.l2 n v.1.1 v.1.2.1.1 v.1.2.1.2.1 v.1.2.2.1 v.1.2.2.2.1 (K (.exit 0) ⟨[], [], [], [], []⟩) (fun y0 => K .ret ⟨[(4, .c (.int .i64 y0))], [], [], [], []⟩)
theorem slices_IndexFunc_Bits__impl_Bits_same.l2_ok : ∀ n v K, slices_IndexFunc_Bits__impl_Bits_same.l2.u n v K → loopM C X0 n 209 2 (slices_IndexFunc_Bits__impl_Bits_same.l2.s.fill v) K :=
 loop_tell hX (fn := Try.f209) (c := bodyOf Try.f209) (a := loopOf Try.f209 2) (li := liOf (C.fi 209).loops 2) (by kernel_rfl) (by kernel_rfl) (of_decide_eq_true rfl) (by kernel_rfl) (by kernel_rfl) (T := slices_IndexFunc_Bits__impl_Bits_same.l2.s) (u := slices_IndexFunc_Bits__impl_Bits_same.l2.u) (fun _ _ h => h) (call := D43) (lp := fun n => noL) (D43_ok hX) (fun n => noL_ok) (fun n v K => by kernel_rfl)
theorem slices_IndexFunc_Bits__impl_Bits_same_ok : ∀ n v K, slices_IndexFunc_Bits__impl_Bits_same.u n v K → callM C X0 n 209 (fillA slices_IndexFunc_Bits__impl_Bits_same.a v) K :=
 call_tell hX (fn := Try.f209) (c := bodyOf Try.f209) (by kernel_rfl) (by kernel_rfl) (A := slices_IndexFunc_Bits__impl_Bits_same.a) (u := slices_IndexFunc_Bits__impl_Bits_same.u) (fun _ _ h => h) (call := D43) (lp := fun n => orL 2 slices_IndexFunc_Bits__impl_Bits_same.l2.s (slices_IndexFunc_Bits__impl_Bits_same.l2.u n) noL) (D43_ok hX) (fun n => (orL_ok (slices_IndexFunc_Bits__impl_Bits_same.l2_ok hX n) noL_ok)) (fun n v K => by kernel_rfl)
def D44 (n : Nat) : CallF := orC 209 slices_IndexFunc_Bits__impl_Bits_same.a (slices_IndexFunc_Bits__impl_Bits_same.u n) (D43 n)
theorem D44_ok : ∀ n g a K, D44 n g a K → callM C X0 n g a K := fun n => orC_ok (slices_IndexFunc_Bits__impl_Bits_same_ok hX n) (D43_ok hX n)
abbrev slices_ContainsFunc_Bits__impl_Bits_same.a : List TS := [.c (.o (.dat 58 (.prod (.int .i64) (.sl 155 (.int .u64))))), .c (.fn 96 [(true, 2)] 1 [.int .i64, .dat 155 (.int .u64)])]
def slices_ContainsFunc_Bits__impl_Bits_same.u (n : Nat) (v : VA slices_ContainsFunc_Bits__impl_Bits_same.a) (K : RES → Prop) : Prop := slices_ContainsFunc_Bits__impl_Bits_same.c n v.1 v.2.1.1 v.2.1.2.1 (fun r0 => K ⟨.c (.bool r0), []⟩)
theorem slices_ContainsFunc_Bits__impl_Bits_same_ok : ∀ n v K, slices_ContainsFunc_Bits__impl_Bits_same.u n v K → callM C X0 n 184 (fillA slices_ContainsFunc_Bits__impl_Bits_same.a v) K :=
 call_tell hX (fn := Try.f184) (c := bodyOf Try.f184) (by kernel_rfl) (by kernel_rfl) (A := slices_ContainsFunc_Bits__impl_Bits_same.a) (u := slices_ContainsFunc_Bits__impl_Bits_same.u) (fun _ _ h => h) (call := D44) (lp := fun n => noL) (D44_ok hX) (fun n => noL_ok) (fun n v K => by kernel_rfl)
def D45 (n : Nat) : CallF := orC 184 slices_ContainsFunc_Bits__impl_Bits_same.a (slices_ContainsFunc_Bits__impl_Bits_same.u n) (D44 n)
theorem D45_ok : ∀ n g a K, D45 n g a K → callM C X0 n g a K := fun n => orC_ok (slices_ContainsFunc_Bits__impl_Bits_same_ok hX n) (D44_ok hX n)
abbrev impl_rivalsOf_1_1.a : List TS := [.c (.o (.int .i64)), .c (.o (.int .i64)), .c (.boxr 158 [.row 157 (.prod (.sl 2 (.int .i64)) (.sl 58 (.prod (.int .i64) (.sl 155 (.int .u64))))) 2])]
def impl_rivalsOf_1_1.u (n : Nat) (v : VA impl_rivalsOf_1_1.a) (K : RES → Prop) : Prop := impl_rivalsOf_1_1.c n v.1 v.2.1 v.2.2.1.1 (fun r0 => K ⟨.tup [], [[.boxr 158 [.row ⟨157, .prod (.sl 2 (.int .i64)) (.sl 58 (.prod (.int .i64) (.sl 155 (.int .u64)))), r0, 2, none⟩]]]⟩)
theorem impl_rivalsOf_1_1_ok : ∀ n v K, impl_rivalsOf_1_1.u n v K → callM C X0 n 182 (fillA impl_rivalsOf_1_1.a v) K :=
 call_tell hX (fn := Try.f182) (c := bodyOf Try.f182) (by kernel_rfl) (by kernel_rfl) (A := impl_rivalsOf_1_1.a) (u := impl_rivalsOf_1_1.u) (fun _ _ h => h) (call := D45) (lp := fun n => noL) (D45_ok hX) (fun n => noL_ok) (fun n v K => by kernel_rfl)
def D46 (n : Nat) : CallF := orC 182 impl_rivalsOf_1_1.a (impl_rivalsOf_1_1.u n) (D45 n)
theorem D46_ok : ∀ n g a K, D46 n g a K → callM C X0 n g a K := fun n => orC_ok (impl_rivalsOf_1_1_ok hX n) (D45_ok hX n)
abbrev impl_rivalsOf.a : List TS := [.a [.o (.dat 2 (.int .i64)), .o (.dat 123 (.prod (.int .i64) (.prod (.int .i64) (.prod (.int .i64) (.sl 155 (.int .u64))))))]]
def impl_rivalsOf.u (n : Nat) (v : VA impl_rivalsOf.a) (K : RES → Prop) : Prop := impl_rivalsOf.c n v.1.1 v.1.2.1 (fun r0 => K ⟨.c (.row ⟨157, .prod (.sl 2 (.int .i64)) (.sl 58 (.prod (.int .i64) (.sl 155 (.int .u64)))), r0, 2, none⟩), []⟩)
abbrev impl_rivalsOf.l4.s : ST := ⟨[(3, .c (.o (.pbox 3 0))), (4, .c (.fn 182 [(false, 1)] 0 [.pbox 3 0])), (14, .c (.o (.dat 123 (.prod (.int .i64) (.prod (.int .i64) (.prod (.int .i64) (.sl 155 (.int .u64)))))))), (15, .c (.o (.int .i64))), (16, .c (.o (.int .i64)))], [⟨1000096, 157, .prod (.sl 2 (.int .i64)) (.sl 58 (.prod (.int .i64) (.sl 155 (.int .u64)))), 2⟩], [⟨3, 158, [.o (.own 1000096)], false⟩], [], []⟩
def impl_rivalsOf.l4.u (n : Nat) (v : impl_rivalsOf.l4.s.V) (K : X → St → Prop) : Prop := impl_rivalsOf.l4 n v.1.2.2.1 v.1.2.2.2.1 v.1.2.2.2.2.1 v.2.1.1 (fun y0 => K (.exit 0) ⟨[(3, .c (.pbox 3 0))], [(1000096, ⟨157, .prod (.sl 2 (.int .i64)) (.sl 58 (.prod (.int .i64) (.sl 155 (.int .u64)))), y0, 2, none⟩)], [(3, ⟨158, [.own 1000096], false⟩)], [], []⟩)
theorem impl_rivalsOf.l4_ok : ∀ n v K, impl_rivalsOf.l4.u n v K → loopM C X0 n 119 4 (impl_rivalsOf.l4.s.fill v) K :=
 loop_tell hX (fn := Try.f119) (c := bodyOf Try.f119) (a := loopOf Try.f119 4) (li := liOf (C.fi 119).loops 4) (by kernel_rfl) (by kernel_rfl) (of_decide_eq_true rfl) (by kernel_rfl) (by kernel_rfl) (T := impl_rivalsOf.l4.s) (u := impl_rivalsOf.l4.u) (fun _ _ h => h) (call := D46) (lp := fun n => noL) (D46_ok hX) (fun n => noL_ok) (fun n v K => by kernel_rfl)
theorem impl_rivalsOf_ok : ∀ n v K, impl_rivalsOf.u n v K → callM C X0 n 119 (fillA impl_rivalsOf.a v) K :=
 call_tell hX (fn := Try.f119) (c := bodyOf Try.f119) (by kernel_rfl) (by kernel_rfl) (A := impl_rivalsOf.a) (u := impl_rivalsOf.u) (fun _ _ h => h) (call := D46) (lp := fun n => orL 4 impl_rivalsOf.l4.s (impl_rivalsOf.l4.u n) noL) (D46_ok hX) (fun n => (orL_ok (impl_rivalsOf.l4_ok hX n) noL_ok)) (fun n v K => by kernel_rfl)
def D47 (n : Nat) : CallF := orC 119 impl_rivalsOf.a (impl_rivalsOf.u n) (D46 n)
theorem D47_ok : ∀ n g a K, D47 n g a K → callM C X0 n g a K := fun n => orC_ok (impl_rivalsOf_ok hX n) (D46_ok hX n)
abbrev impl_rivals_crowd.a : List TS := [.c (.o (.pdat 157 (.prod (.sl 2 (.int .i64)) (.sl 58 (.prod (.int .i64) (.sl 155 (.int .u64))))) 0))]
def impl_rivals_crowd.u (n : Nat) (v : VA impl_rivals_crowd.a) (K : RES → Prop) : Prop := impl_rivals_crowd.c n v.1 (fun r0 => K ⟨.c (.int .i64 r0), []⟩)
theorem impl_rivals_crowd_ok : ∀ n v K, impl_rivals_crowd.u n v K → callM C X0 n 120 (fillA impl_rivals_crowd.a v) K :=
 call_tell hX (fn := Try.f120) (c := bodyOf Try.f120) (by kernel_rfl) (by kernel_rfl) (A := impl_rivals_crowd.a) (u := impl_rivals_crowd.u) (fun _ _ h => h) (call := D47) (lp := fun n => noL) (D47_ok hX) (fun n => noL_ok) (fun n v K => by kernel_rfl)
def D48 (n : Nat) : CallF := orC 120 impl_rivals_crowd.a (impl_rivals_crowd.u n) (D47 n)
theorem D48_ok : ∀ n g a K, D48 n g a K → callM C X0 n g a K := fun n => orC_ok (impl_rivals_crowd_ok hX n) (D47_ok hX n)
abbrev impl_CrowdOf.a : List TS := [.a [.o (.dat 2 (.int .i64)), .o (.dat 123 (.prod (.int .i64) (.prod (.int .i64) (.prod (.int .i64) (.sl 155 (.int .u64))))))], .c (.o (.int .i64))]
def impl_CrowdOf.u (n : Nat) (v : VA impl_CrowdOf.a) (K : RES → Prop) : Prop := impl_CrowdOf.c n v.1.1 v.1.2.1 v.2.1 (fun r0 => K ⟨.c (.int .i64 r0), []⟩)
theorem impl_CrowdOf_ok : ∀ n v K, impl_CrowdOf.u n v K → callM C X0 n 44 (fillA impl_CrowdOf.a v) K :=
 call_tell hX (fn := Try.f44) (c := bodyOf Try.f44) (by kernel_rfl) (by kernel_rfl) (A := impl_CrowdOf.a) (u := impl_CrowdOf.u) (fun _ _ h => h) (call := D48) (lp := fun n => noL) (D48_ok hX) (fun n => noL_ok) (fun n v K => by kernel_rfl)
def D49 (n : Nat) : CallF := orC 44 impl_CrowdOf.a (impl_CrowdOf.u n) (D48 n)
theorem D49_ok : ∀ n g a K, D49 n g a K → callM C X0 n g a K := fun n => orC_ok (impl_CrowdOf_ok hX n) (D48_ok hX n)
abbrev laws_FnExactCrowdOf.a : List TS := [.a [.o (.dat 2 (.int .i64)), .o (.dat 201 (.prod (.int .i64) (.prod (.int .i64) (.prod (.int .i64) (.sl 155 (.int .u64))))))], .c (.o (.int .i64))]
def laws_FnExactCrowdOf.u (n : Nat) (v : VA laws_FnExactCrowdOf.a) (K : RES → Prop) : Prop := laws_FnExactCrowdOf.c n v.1.1 v.1.2.1 v.2.1 (fun r0 => K ⟨.c (.bool r0), []⟩)
theorem laws_FnExactCrowdOf_ok : ∀ n v K, laws_FnExactCrowdOf.u n v K → callM C X0 n 7 (fillA laws_FnExactCrowdOf.a v) K :=
 call_tell hX (fn := Try.f7) (c := bodyOf Try.f7) (by kernel_rfl) (by kernel_rfl) (A := laws_FnExactCrowdOf.a) (u := laws_FnExactCrowdOf.u) (fun _ _ h => h) (call := D49) (lp := fun n => noL) (D49_ok hX) (fun n => noL_ok) (fun n v K => by kernel_rfl)
def D50 (n : Nat) : CallF := orC 7 laws_FnExactCrowdOf.a (laws_FnExactCrowdOf.u n) (D49 n)
theorem D50_ok : ∀ n g a K, D50 n g a K → callM C X0 n g a K := fun n => orC_ok (laws_FnExactCrowdOf_ok hX n) (D49_ok hX n)
end
end Go.Vsi
end
