/- Each told function is what the machine comes to. No statement is proved here. -/
import Derived.Test.YtppcdaliielpgaaM3
import Derived.Test.YtppcdaliielpgaaA1
import Derived.Test.YtppcdaliielpgaaProg
import Derived.KernelRfl

section
set_option linter.unusedVariables false
namespace Go.Vsi
open Go.Proofs
def tis : List (Nat × TI) := [
(1, ⟨false, 1, 8, [.undef], none, none, []⟩),
(2, ⟨false, 1, 8, [.int .i64 0], some (.int .i64), none, []⟩),
(3, ⟨false, 1, 8, [.int .i64 0], some (.int .i64), none, []⟩),
(4, ⟨false, 1, 1, [.bool false], some (.bool), none, []⟩),
(5, ⟨false, 1, 1, [.int .u8 0], some (.int .u8), none, []⟩),
(6, ⟨false, 1, 1, [.int .u8 0], some (.int .u8), none, []⟩),
(7, ⟨true, 4, 24, [.int .i64 0, .int .i64 0, .bool false, .int .u8 0], some (.prod (.int .i64) (.prod (.int .i64) (.prod .bool (.int .u8)))), none, [(0, 2), (1, 3), (2, 4), (3, 6)]⟩),
(8, ⟨true, 4, 24, [.int .i64 0, .int .i64 0, .bool false, .int .u8 0], some (.prod (.int .i64) (.prod (.int .i64) (.prod .bool (.int .u8)))), none, [(0, 2), (1, 3), (2, 4), (3, 6)]⟩),
(9, ⟨false, 1, 16, [.str []], some (.str), none, []⟩),
(10, ⟨false, 1, 16, [.str []], some (.str), none, []⟩),
(11, ⟨false, 1, 16, [.str []], some (.str), none, []⟩),
(12, ⟨false, 1, 8, [.int .u64 0], some (.int .u64), none, []⟩),
(13, ⟨true, 2, 24, [.str [], .int .u64 0], some (.prod .str (.int .u64)), none, [(0, 9), (1, 12)]⟩),
(14, ⟨true, 2, 24, [.str [], .int .u64 0], some (.prod .str (.int .u64)), none, [(0, 9), (1, 12)]⟩),
(15, ⟨false, 1, 8, [.undef], none, none, []⟩),
(16, ⟨false, 1, 8, [.undef], none, none, []⟩),
(17, ⟨false, 1, 8, [.undef], none, none, []⟩),
(18, ⟨true, 1, 8, [.undef], none, none, [(0, 17)]⟩),
(19, ⟨true, 1, 8, [.undef], none, none, [(0, 17)]⟩),
(20, ⟨false, 1, 16, [.undef], none, none, []⟩),
(21, ⟨false, 1, 4, [.int .i32 0], some (.int .i32), none, []⟩),
(22, ⟨false, 1, 24, [.emp 118 (.prod (.int .i64) (.prod (.int .i64) (.sl 201 (.prod (.int .i64) (.prod (.int .i64) (.prod (.int .i64) (.sl 155 (.int .u64))))))))], some (.sl 118 (.prod (.int .i64) (.prod (.int .i64) (.sl 201 (.prod (.int .i64) (.prod (.int .i64) (.prod (.int .i64) (.sl 155 (.int .u64))))))))), some 118, []⟩),
(23, ⟨false, 1, 8, [.undef], none, none, []⟩),
(24, ⟨false, 1, 24, [.emp 123 (.prod (.int .i64) (.prod (.int .i64) (.prod (.int .i64) (.sl 155 (.int .u64)))))], some (.sl 123 (.prod (.int .i64) (.prod (.int .i64) (.prod (.int .i64) (.sl 155 (.int .u64)))))), some 123, []⟩),
(25, ⟨false, 1, 8, [.undef], none, none, []⟩),
(26, ⟨false, 1, 24, [.emp 120 (.prod (.int .i64) (.prod (.int .i64) (.sl 123 (.prod (.int .i64) (.prod (.int .i64) (.prod (.int .i64) (.sl 155 (.int .u64))))))))], some (.sl 120 (.prod (.int .i64) (.prod (.int .i64) (.sl 123 (.prod (.int .i64) (.prod (.int .i64) (.prod (.int .i64) (.sl 155 (.int .u64))))))))), some 120, []⟩),
(27, ⟨false, 1, 8, [.undef], none, none, []⟩),
(28, ⟨false, 1, 8, [.undef], none, none, []⟩),
(29, ⟨false, 1, 8, [.undef], none, none, []⟩),
(30, ⟨false, 1, 8, [.undef], none, none, []⟩),
(31, ⟨false, 1, 8, [.undef], none, none, []⟩),
(32, ⟨false, 1, 8, [.undef], none, none, []⟩),
(33, ⟨false, 1, 24, [.emp 2 (.int .i64)], some (.sl 2 (.int .i64)), some 2, []⟩),
(34, ⟨false, 1, 24, [.emp 201 (.prod (.int .i64) (.prod (.int .i64) (.prod (.int .i64) (.sl 155 (.int .u64)))))], some (.sl 201 (.prod (.int .i64) (.prod (.int .i64) (.prod (.int .i64) (.sl 155 (.int .u64)))))), some 201, []⟩),
(35, ⟨true, 2, 48, [.emp 2 (.int .i64), .emp 201 (.prod (.int .i64) (.prod (.int .i64) (.prod (.int .i64) (.sl 155 (.int .u64)))))], some (.prod (.sl 2 (.int .i64)) (.sl 201 (.prod (.int .i64) (.prod (.int .i64) (.prod (.int .i64) (.sl 155 (.int .u64))))))), none, [(0, 33), (1, 34)]⟩),
(36, ⟨true, 2, 48, [.emp 2 (.int .i64), .emp 201 (.prod (.int .i64) (.prod (.int .i64) (.prod (.int .i64) (.sl 155 (.int .u64)))))], some (.prod (.sl 2 (.int .i64)) (.sl 201 (.prod (.int .i64) (.prod (.int .i64) (.prod (.int .i64) (.sl 155 (.int .u64))))))), none, [(0, 33), (1, 34)]⟩),
(37, ⟨false, 1, 24, [.emp 131 (.prod (.int .i64) (.sl 155 (.int .u64)))], some (.sl 131 (.prod (.int .i64) (.sl 155 (.int .u64)))), some 131, []⟩),
(38, ⟨false, 1, 8, [.undef], none, none, []⟩),
(39, ⟨false, 1, 8, [.undef], none, none, []⟩),
(40, ⟨false, 1, 8, [.undef], none, none, []⟩),
(41, ⟨true, 2, 48, [.emp 2 (.int .i64), .emp 123 (.prod (.int .i64) (.prod (.int .i64) (.prod (.int .i64) (.sl 155 (.int .u64)))))], some (.prod (.sl 2 (.int .i64)) (.sl 123 (.prod (.int .i64) (.prod (.int .i64) (.prod (.int .i64) (.sl 155 (.int .u64))))))), none, [(0, 33), (1, 24)]⟩),
(42, ⟨true, 2, 48, [.emp 2 (.int .i64), .emp 123 (.prod (.int .i64) (.prod (.int .i64) (.prod (.int .i64) (.sl 155 (.int .u64)))))], some (.prod (.sl 2 (.int .i64)) (.sl 123 (.prod (.int .i64) (.prod (.int .i64) (.prod (.int .i64) (.sl 155 (.int .u64))))))), none, [(0, 33), (1, 24)]⟩),
(43, ⟨false, 1, 8, [.undef], none, none, []⟩),
(44, ⟨false, 1, 24, [.emp 58 (.prod (.int .i64) (.sl 155 (.int .u64)))], some (.sl 58 (.prod (.int .i64) (.sl 155 (.int .u64)))), some 58, []⟩),
(45, ⟨false, 1, 8, [.undef], none, none, []⟩),
(46, ⟨false, 1, 8, [.undef], none, none, []⟩),
(47, ⟨false, 1, 8, [.undef], none, none, []⟩),
(48, ⟨false, 1, 8, [.undef], none, none, []⟩),
(49, ⟨false, 1, 24, [.emp 5 (.int .u8)], some (.sl 5 (.int .u8)), some 5, []⟩),
(50, ⟨false, 1, 8, [.undef], none, none, []⟩),
(52, ⟨false, 1, 8, [.undef], none, none, []⟩),
(54, ⟨false, 1, 8, [.undef], none, none, []⟩),
(55, ⟨false, 1, 8, [.int .u64 0], some (.int .u64), none, []⟩),
(56, ⟨false, 1, 24, [.emp 155 (.int .u64)], some (.sl 155 (.int .u64)), some 155, []⟩),
(57, ⟨true, 2, 32, [.int .i64 0, .emp 155 (.int .u64)], some (.prod (.int .i64) (.sl 155 (.int .u64))), none, [(0, 2), (1, 56)]⟩),
(58, ⟨true, 2, 32, [.int .i64 0, .emp 155 (.int .u64)], some (.prod (.int .i64) (.sl 155 (.int .u64))), none, [(0, 2), (1, 56)]⟩),
(60, ⟨false, 1, 8, [.undef], none, none, []⟩),
(61, ⟨false, 1, 24, [.emp 167 (.prod .str (.int .i64))], some (.sl 167 (.prod .str (.int .i64))), some 167, []⟩),
(63, ⟨false, 1, 8, [.undef], none, none, []⟩),
(65, ⟨false, 1, 8, [.undef], none, none, []⟩),
(66, ⟨false, 1, 8, [.undef], none, none, []⟩),
(67, ⟨false, 1, 8, [.undef], none, none, []⟩),
(68, ⟨false, 1, 8, [.undef], none, none, []⟩),
(69, ⟨false, 1, 8, [.undef], none, none, []⟩),
(70, ⟨false, 1, 8, [.undef], none, none, []⟩),
(71, ⟨false, 1, 8, [.undef], none, none, []⟩),
(72, ⟨false, 1, 24, [.emp 164 (.prod .str (.int .i64))], some (.sl 164 (.prod .str (.int .i64))), some 164, []⟩),
(73, ⟨false, 1, 24, [.emp 226 (.prod (.int .i64) (.prod (.int .i64) (.prod (.int .i64) (.prod (.int .i64) (.prod (.int .i64) (.prod (.sl 155 (.int .u64)) (.sl 2 (.int .i64))))))))], some (.sl 226 (.prod (.int .i64) (.prod (.int .i64) (.prod (.int .i64) (.prod (.int .i64) (.prod (.int .i64) (.prod (.sl 155 (.int .u64)) (.sl 2 (.int .i64))))))))), some 226, []⟩),
(74, ⟨true, 1, 24, [.emp 226 (.prod (.int .i64) (.prod (.int .i64) (.prod (.int .i64) (.prod (.int .i64) (.prod (.int .i64) (.prod (.sl 155 (.int .u64)) (.sl 2 (.int .i64))))))))], some (.sl 226 (.prod (.int .i64) (.prod (.int .i64) (.prod (.int .i64) (.prod (.int .i64) (.prod (.int .i64) (.prod (.sl 155 (.int .u64)) (.sl 2 (.int .i64))))))))), none, [(0, 73)]⟩),
(75, ⟨true, 1, 24, [.emp 226 (.prod (.int .i64) (.prod (.int .i64) (.prod (.int .i64) (.prod (.int .i64) (.prod (.int .i64) (.prod (.sl 155 (.int .u64)) (.sl 2 (.int .i64))))))))], some (.sl 226 (.prod (.int .i64) (.prod (.int .i64) (.prod (.int .i64) (.prod (.int .i64) (.prod (.int .i64) (.prod (.sl 155 (.int .u64)) (.sl 2 (.int .i64))))))))), none, [(0, 73)]⟩),
(76, ⟨false, 1, 8, [.undef], none, none, []⟩),
(77, ⟨false, 1, 8, [.undef], none, none, []⟩),
(78, ⟨false, 1, 8, [.undef], none, none, []⟩),
(79, ⟨false, 1, 8, [.undef], none, none, []⟩),
(80, ⟨false, 1, 24, [.emp 174 (.prod (.int .i64) (.prod (.int .i64) (.prod (.int .i64) (.prod (.int .i64) (.prod (.int .i64) (.prod (.sl 155 (.int .u64)) (.sl 2 (.int .i64))))))))], some (.sl 174 (.prod (.int .i64) (.prod (.int .i64) (.prod (.int .i64) (.prod (.int .i64) (.prod (.int .i64) (.prod (.sl 155 (.int .u64)) (.sl 2 (.int .i64))))))))), some 174, []⟩),
(81, ⟨true, 1, 24, [.emp 174 (.prod (.int .i64) (.prod (.int .i64) (.prod (.int .i64) (.prod (.int .i64) (.prod (.int .i64) (.prod (.sl 155 (.int .u64)) (.sl 2 (.int .i64))))))))], some (.sl 174 (.prod (.int .i64) (.prod (.int .i64) (.prod (.int .i64) (.prod (.int .i64) (.prod (.int .i64) (.prod (.sl 155 (.int .u64)) (.sl 2 (.int .i64))))))))), none, [(0, 80)]⟩),
(82, ⟨true, 1, 24, [.emp 174 (.prod (.int .i64) (.prod (.int .i64) (.prod (.int .i64) (.prod (.int .i64) (.prod (.int .i64) (.prod (.sl 155 (.int .u64)) (.sl 2 (.int .i64))))))))], some (.sl 174 (.prod (.int .i64) (.prod (.int .i64) (.prod (.int .i64) (.prod (.int .i64) (.prod (.int .i64) (.prod (.sl 155 (.int .u64)) (.sl 2 (.int .i64))))))))), none, [(0, 80)]⟩),
(83, ⟨false, 1, 8, [.undef], none, none, []⟩),
(84, ⟨false, 1, 8, [.undef], none, none, []⟩),
(85, ⟨false, 1, 8, [.undef], none, none, []⟩),
(86, ⟨false, 1, 8, [.undef], none, none, []⟩),
(87, ⟨false, 1, 24, [.emp 177 (.prod (.int .i64) (.prod .bool (.prod (.sl 226 (.prod (.int .i64) (.prod (.int .i64) (.prod (.int .i64) (.prod (.int .i64) (.prod (.int .i64) (.prod (.sl 155 (.int .u64)) (.sl 2 (.int .i64))))))))) (.sl 226 (.prod (.int .i64) (.prod (.int .i64) (.prod (.int .i64) (.prod (.int .i64) (.prod (.int .i64) (.prod (.sl 155 (.int .u64)) (.sl 2 (.int .i64))))))))))))], some (.sl 177 (.prod (.int .i64) (.prod .bool (.prod (.sl 226 (.prod (.int .i64) (.prod (.int .i64) (.prod (.int .i64) (.prod (.int .i64) (.prod (.int .i64) (.prod (.sl 155 (.int .u64)) (.sl 2 (.int .i64))))))))) (.sl 226 (.prod (.int .i64) (.prod (.int .i64) (.prod (.int .i64) (.prod (.int .i64) (.prod (.int .i64) (.prod (.sl 155 (.int .u64)) (.sl 2 (.int .i64))))))))))))), some 177, []⟩),
(88, ⟨false, 1, 8, [.undef], none, none, []⟩),
(89, ⟨false, 1, 8, [.undef], none, none, []⟩),
(90, ⟨false, 1, 24, [.emp 179 (.prod (.int .i64) (.prod .bool (.prod (.sl 174 (.prod (.int .i64) (.prod (.int .i64) (.prod (.int .i64) (.prod (.int .i64) (.prod (.int .i64) (.prod (.sl 155 (.int .u64)) (.sl 2 (.int .i64))))))))) (.sl 174 (.prod (.int .i64) (.prod (.int .i64) (.prod (.int .i64) (.prod (.int .i64) (.prod (.int .i64) (.prod (.sl 155 (.int .u64)) (.sl 2 (.int .i64))))))))))))], some (.sl 179 (.prod (.int .i64) (.prod .bool (.prod (.sl 174 (.prod (.int .i64) (.prod (.int .i64) (.prod (.int .i64) (.prod (.int .i64) (.prod (.int .i64) (.prod (.sl 155 (.int .u64)) (.sl 2 (.int .i64))))))))) (.sl 174 (.prod (.int .i64) (.prod (.int .i64) (.prod (.int .i64) (.prod (.int .i64) (.prod (.int .i64) (.prod (.sl 155 (.int .u64)) (.sl 2 (.int .i64))))))))))))), some 179, []⟩),
(91, ⟨false, 1, 8, [.undef], none, none, []⟩),
(92, ⟨false, 1, 8, [.undef], none, none, []⟩),
(93, ⟨false, 1, 8, [.undef], none, none, []⟩),
(94, ⟨false, 1, 8, [.undef], none, none, []⟩),
(95, ⟨false, 1, 8, [.undef], none, none, []⟩),
(96, ⟨false, 1, 24, [.emp 102 (.prod (.int .i64) (.prod (.int .i64) (.prod (.int .i64) (.prod (.int .i64) (.sl 155 (.int .u64))))))], some (.sl 102 (.prod (.int .i64) (.prod (.int .i64) (.prod (.int .i64) (.prod (.int .i64) (.sl 155 (.int .u64))))))), some 102, []⟩),
(101, ⟨true, 5, 56, [.int .i64 0, .int .i64 0, .int .i64 0, .int .i64 0, .emp 155 (.int .u64)], some (.prod (.int .i64) (.prod (.int .i64) (.prod (.int .i64) (.prod (.int .i64) (.sl 155 (.int .u64)))))), none, [(0, 2), (1, 2), (2, 2), (3, 58)]⟩),
(102, ⟨true, 5, 56, [.int .i64 0, .int .i64 0, .int .i64 0, .int .i64 0, .emp 155 (.int .u64)], some (.prod (.int .i64) (.prod (.int .i64) (.prod (.int .i64) (.prod (.int .i64) (.sl 155 (.int .u64)))))), none, [(0, 2), (1, 2), (2, 2), (3, 58)]⟩),
(103, ⟨false, 1, 8, [.undef], none, none, []⟩),
(108, ⟨false, 1, 8, [.undef], none, none, []⟩),
(110, ⟨false, 1, 24, [.emp 194 (.prod (.int .i64) (.sl 179 (.prod (.int .i64) (.prod .bool (.prod (.sl 174 (.prod (.int .i64) (.prod (.int .i64) (.prod (.int .i64) (.prod (.int .i64) (.prod (.int .i64) (.prod (.sl 155 (.int .u64)) (.sl 2 (.int .i64))))))))) (.sl 174 (.prod (.int .i64) (.prod (.int .i64) (.prod (.int .i64) (.prod (.int .i64) (.prod (.int .i64) (.prod (.sl 155 (.int .u64)) (.sl 2 (.int .i64))))))))))))))], some (.sl 194 (.prod (.int .i64) (.sl 179 (.prod (.int .i64) (.prod .bool (.prod (.sl 174 (.prod (.int .i64) (.prod (.int .i64) (.prod (.int .i64) (.prod (.int .i64) (.prod (.int .i64) (.prod (.sl 155 (.int .u64)) (.sl 2 (.int .i64))))))))) (.sl 174 (.prod (.int .i64) (.prod (.int .i64) (.prod (.int .i64) (.prod (.int .i64) (.prod (.int .i64) (.prod (.sl 155 (.int .u64)) (.sl 2 (.int .i64))))))))))))))), some 194, []⟩),
(111, ⟨true, 3, 56, [.emp 167 (.prod .str (.int .i64)), .emp 194 (.prod (.int .i64) (.sl 179 (.prod (.int .i64) (.prod .bool (.prod (.sl 174 (.prod (.int .i64) (.prod (.int .i64) (.prod (.int .i64) (.prod (.int .i64) (.prod (.int .i64) (.prod (.sl 155 (.int .u64)) (.sl 2 (.int .i64))))))))) (.sl 174 (.prod (.int .i64) (.prod (.int .i64) (.prod (.int .i64) (.prod (.int .i64) (.prod (.int .i64) (.prod (.sl 155 (.int .u64)) (.sl 2 (.int .i64)))))))))))))), .int .i64 0], some (.prod (.sl 167 (.prod .str (.int .i64))) (.prod (.sl 194 (.prod (.int .i64) (.sl 179 (.prod (.int .i64) (.prod .bool (.prod (.sl 174 (.prod (.int .i64) (.prod (.int .i64) (.prod (.int .i64) (.prod (.int .i64) (.prod (.int .i64) (.prod (.sl 155 (.int .u64)) (.sl 2 (.int .i64))))))))) (.sl 174 (.prod (.int .i64) (.prod (.int .i64) (.prod (.int .i64) (.prod (.int .i64) (.prod (.int .i64) (.prod (.sl 155 (.int .u64)) (.sl 2 (.int .i64))))))))))))))) (.int .i64))), none, [(0, 61), (1, 110), (2, 2)]⟩),
(112, ⟨true, 3, 56, [.emp 167 (.prod .str (.int .i64)), .emp 194 (.prod (.int .i64) (.sl 179 (.prod (.int .i64) (.prod .bool (.prod (.sl 174 (.prod (.int .i64) (.prod (.int .i64) (.prod (.int .i64) (.prod (.int .i64) (.prod (.int .i64) (.prod (.sl 155 (.int .u64)) (.sl 2 (.int .i64))))))))) (.sl 174 (.prod (.int .i64) (.prod (.int .i64) (.prod (.int .i64) (.prod (.int .i64) (.prod (.int .i64) (.prod (.sl 155 (.int .u64)) (.sl 2 (.int .i64)))))))))))))), .int .i64 0], some (.prod (.sl 167 (.prod .str (.int .i64))) (.prod (.sl 194 (.prod (.int .i64) (.sl 179 (.prod (.int .i64) (.prod .bool (.prod (.sl 174 (.prod (.int .i64) (.prod (.int .i64) (.prod (.int .i64) (.prod (.int .i64) (.prod (.int .i64) (.prod (.sl 155 (.int .u64)) (.sl 2 (.int .i64))))))))) (.sl 174 (.prod (.int .i64) (.prod (.int .i64) (.prod (.int .i64) (.prod (.int .i64) (.prod (.int .i64) (.prod (.sl 155 (.int .u64)) (.sl 2 (.int .i64))))))))))))))) (.int .i64))), none, [(0, 61), (1, 110), (2, 2)]⟩),
(113, ⟨false, 1, 8, [.undef], none, none, []⟩),
(114, ⟨false, 1, 8, [.undef], none, none, []⟩),
(115, ⟨false, 1, 8, [.undef], none, none, []⟩),
(116, ⟨false, 1, 8, [.undef], none, none, []⟩),
(117, ⟨true, 3, 40, [.int .i64 0, .int .i64 0, .emp 201 (.prod (.int .i64) (.prod (.int .i64) (.prod (.int .i64) (.sl 155 (.int .u64)))))], some (.prod (.int .i64) (.prod (.int .i64) (.sl 201 (.prod (.int .i64) (.prod (.int .i64) (.prod (.int .i64) (.sl 155 (.int .u64)))))))), none, [(0, 2), (1, 2), (2, 34)]⟩),
(118, ⟨true, 3, 40, [.int .i64 0, .int .i64 0, .emp 201 (.prod (.int .i64) (.prod (.int .i64) (.prod (.int .i64) (.sl 155 (.int .u64)))))], some (.prod (.int .i64) (.prod (.int .i64) (.sl 201 (.prod (.int .i64) (.prod (.int .i64) (.prod (.int .i64) (.sl 155 (.int .u64)))))))), none, [(0, 2), (1, 2), (2, 34)]⟩),
(120, ⟨true, 3, 40, [.int .i64 0, .int .i64 0, .emp 123 (.prod (.int .i64) (.prod (.int .i64) (.prod (.int .i64) (.sl 155 (.int .u64)))))], some (.prod (.int .i64) (.prod (.int .i64) (.sl 123 (.prod (.int .i64) (.prod (.int .i64) (.prod (.int .i64) (.sl 155 (.int .u64)))))))), none, [(0, 2), (1, 2), (2, 24)]⟩),
(122, ⟨true, 4, 48, [.int .i64 0, .int .i64 0, .int .i64 0, .emp 155 (.int .u64)], some (.prod (.int .i64) (.prod (.int .i64) (.prod (.int .i64) (.sl 155 (.int .u64))))), none, [(0, 2), (1, 2), (2, 58)]⟩),
(123, ⟨true, 4, 48, [.int .i64 0, .int .i64 0, .int .i64 0, .emp 155 (.int .u64)], some (.prod (.int .i64) (.prod (.int .i64) (.prod (.int .i64) (.sl 155 (.int .u64))))), none, [(0, 2), (1, 2), (2, 58)]⟩),
(127, ⟨false, 1, 8, [.undef], none, none, []⟩),
(128, ⟨false, 1, 8, [.undef], none, none, []⟩),
(129, ⟨false, 1, 8, [.undef], none, none, []⟩),
(131, ⟨true, 2, 32, [.int .i64 0, .emp 155 (.int .u64)], some (.prod (.int .i64) (.sl 155 (.int .u64))), none, [(0, 2), (1, 56)]⟩),
(133, ⟨false, 1, 8, [.undef], none, none, []⟩),
(139, ⟨false, 1, 8, [.undef], none, none, []⟩),
(155, ⟨false, 1, 8, [.int .u64 0], some (.int .u64), none, []⟩),
(157, ⟨true, 2, 48, [.emp 2 (.int .i64), .emp 58 (.prod (.int .i64) (.sl 155 (.int .u64)))], some (.prod (.sl 2 (.int .i64)) (.sl 58 (.prod (.int .i64) (.sl 155 (.int .u64))))), none, [(0, 33), (1, 44)]⟩),
(158, ⟨false, 1, 24, [.emp 157 (.prod (.sl 2 (.int .i64)) (.sl 58 (.prod (.int .i64) (.sl 155 (.int .u64)))))], some (.sl 157 (.prod (.sl 2 (.int .i64)) (.sl 58 (.prod (.int .i64) (.sl 155 (.int .u64)))))), some 157, []⟩),
(159, ⟨false, 1, 8, [.undef], none, none, []⟩),
(164, ⟨true, 2, 24, [.str [], .int .i64 0], some (.prod .str (.int .i64)), none, [(0, 9), (1, 2)]⟩),
(167, ⟨true, 2, 24, [.str [], .int .i64 0], some (.prod .str (.int .i64)), none, [(0, 9), (1, 2)]⟩),
(168, ⟨false, 1, 8, [.undef], none, none, []⟩),
(169, ⟨false, 1, 8, [.undef], none, none, []⟩),
(170, ⟨false, 1, 8, [.undef], none, none, []⟩),
(171, ⟨false, 1, 8, [.undef], none, none, []⟩),
(174, ⟨true, 7, 88, [.int .i64 0, .int .i64 0, .int .i64 0, .int .i64 0, .int .i64 0, .emp 155 (.int .u64), .emp 2 (.int .i64)], some (.prod (.int .i64) (.prod (.int .i64) (.prod (.int .i64) (.prod (.int .i64) (.prod (.int .i64) (.prod (.sl 155 (.int .u64)) (.sl 2 (.int .i64)))))))), none, [(0, 2), (1, 2), (2, 2), (3, 2), (4, 58), (6, 33)]⟩),
(177, ⟨true, 4, 64, [.int .i64 0, .bool false, .emp 226 (.prod (.int .i64) (.prod (.int .i64) (.prod (.int .i64) (.prod (.int .i64) (.prod (.int .i64) (.prod (.sl 155 (.int .u64)) (.sl 2 (.int .i64)))))))), .emp 226 (.prod (.int .i64) (.prod (.int .i64) (.prod (.int .i64) (.prod (.int .i64) (.prod (.int .i64) (.prod (.sl 155 (.int .u64)) (.sl 2 (.int .i64))))))))], some (.prod (.int .i64) (.prod .bool (.prod (.sl 226 (.prod (.int .i64) (.prod (.int .i64) (.prod (.int .i64) (.prod (.int .i64) (.prod (.int .i64) (.prod (.sl 155 (.int .u64)) (.sl 2 (.int .i64))))))))) (.sl 226 (.prod (.int .i64) (.prod (.int .i64) (.prod (.int .i64) (.prod (.int .i64) (.prod (.int .i64) (.prod (.sl 155 (.int .u64)) (.sl 2 (.int .i64)))))))))))), none, [(0, 2), (1, 4), (2, 75), (3, 75)]⟩),
(179, ⟨true, 4, 64, [.int .i64 0, .bool false, .emp 174 (.prod (.int .i64) (.prod (.int .i64) (.prod (.int .i64) (.prod (.int .i64) (.prod (.int .i64) (.prod (.sl 155 (.int .u64)) (.sl 2 (.int .i64)))))))), .emp 174 (.prod (.int .i64) (.prod (.int .i64) (.prod (.int .i64) (.prod (.int .i64) (.prod (.int .i64) (.prod (.sl 155 (.int .u64)) (.sl 2 (.int .i64))))))))], some (.prod (.int .i64) (.prod .bool (.prod (.sl 174 (.prod (.int .i64) (.prod (.int .i64) (.prod (.int .i64) (.prod (.int .i64) (.prod (.int .i64) (.prod (.sl 155 (.int .u64)) (.sl 2 (.int .i64))))))))) (.sl 174 (.prod (.int .i64) (.prod (.int .i64) (.prod (.int .i64) (.prod (.int .i64) (.prod (.int .i64) (.prod (.sl 155 (.int .u64)) (.sl 2 (.int .i64)))))))))))), none, [(0, 2), (1, 4), (2, 82), (3, 82)]⟩),
(180, ⟨false, 1, 8, [.undef], none, none, []⟩),
(181, ⟨false, 1, 8, [.undef], none, none, []⟩),
(189, ⟨false, 1, 8, [.undef], none, none, []⟩),
(190, ⟨false, 1, 8, [.undef], none, none, []⟩),
(193, ⟨true, 2, 32, [.int .i64 0, .emp 179 (.prod (.int .i64) (.prod .bool (.prod (.sl 174 (.prod (.int .i64) (.prod (.int .i64) (.prod (.int .i64) (.prod (.int .i64) (.prod (.int .i64) (.prod (.sl 155 (.int .u64)) (.sl 2 (.int .i64))))))))) (.sl 174 (.prod (.int .i64) (.prod (.int .i64) (.prod (.int .i64) (.prod (.int .i64) (.prod (.int .i64) (.prod (.sl 155 (.int .u64)) (.sl 2 (.int .i64))))))))))))], some (.prod (.int .i64) (.sl 179 (.prod (.int .i64) (.prod .bool (.prod (.sl 174 (.prod (.int .i64) (.prod (.int .i64) (.prod (.int .i64) (.prod (.int .i64) (.prod (.int .i64) (.prod (.sl 155 (.int .u64)) (.sl 2 (.int .i64))))))))) (.sl 174 (.prod (.int .i64) (.prod (.int .i64) (.prod (.int .i64) (.prod (.int .i64) (.prod (.int .i64) (.prod (.sl 155 (.int .u64)) (.sl 2 (.int .i64)))))))))))))), none, [(0, 2), (1, 90)]⟩),
(194, ⟨true, 2, 32, [.int .i64 0, .emp 179 (.prod (.int .i64) (.prod .bool (.prod (.sl 174 (.prod (.int .i64) (.prod (.int .i64) (.prod (.int .i64) (.prod (.int .i64) (.prod (.int .i64) (.prod (.sl 155 (.int .u64)) (.sl 2 (.int .i64))))))))) (.sl 174 (.prod (.int .i64) (.prod (.int .i64) (.prod (.int .i64) (.prod (.int .i64) (.prod (.int .i64) (.prod (.sl 155 (.int .u64)) (.sl 2 (.int .i64))))))))))))], some (.prod (.int .i64) (.sl 179 (.prod (.int .i64) (.prod .bool (.prod (.sl 174 (.prod (.int .i64) (.prod (.int .i64) (.prod (.int .i64) (.prod (.int .i64) (.prod (.int .i64) (.prod (.sl 155 (.int .u64)) (.sl 2 (.int .i64))))))))) (.sl 174 (.prod (.int .i64) (.prod (.int .i64) (.prod (.int .i64) (.prod (.int .i64) (.prod (.int .i64) (.prod (.sl 155 (.int .u64)) (.sl 2 (.int .i64)))))))))))))), none, [(0, 2), (1, 90)]⟩),
(200, ⟨true, 4, 48, [.int .i64 0, .int .i64 0, .int .i64 0, .emp 155 (.int .u64)], some (.prod (.int .i64) (.prod (.int .i64) (.prod (.int .i64) (.sl 155 (.int .u64))))), none, [(0, 2), (1, 2), (2, 131)]⟩),
(201, ⟨true, 4, 48, [.int .i64 0, .int .i64 0, .int .i64 0, .emp 155 (.int .u64)], some (.prod (.int .i64) (.prod (.int .i64) (.prod (.int .i64) (.sl 155 (.int .u64))))), none, [(0, 2), (1, 2), (2, 131)]⟩),
(204, ⟨false, 1, 8, [.undef], none, none, []⟩),
(210, ⟨true, 2, 32, [.emp 5 (.int .u8), .int .i64 0], some (.prod (.sl 5 (.int .u8)) (.int .i64)), none, [(0, 49), (1, 3)]⟩),
(211, ⟨false, 1, 8, [.undef], none, none, []⟩),
(212, ⟨false, 1, 8, [.undef], none, none, []⟩),
(216, ⟨true, 7, 136, [.emp 2 (.int .i64), .emp 123 (.prod (.int .i64) (.prod (.int .i64) (.prod (.int .i64) (.sl 155 (.int .u64))))), .emp 157 (.prod (.sl 2 (.int .i64)) (.sl 58 (.prod (.int .i64) (.sl 155 (.int .u64))))), .emp 2 (.int .i64), .emp 58 (.prod (.int .i64) (.sl 155 (.int .u64))), .int .i64 0, .int .i64 0], some (.prod (.sl 2 (.int .i64)) (.prod (.sl 123 (.prod (.int .i64) (.prod (.int .i64) (.prod (.int .i64) (.sl 155 (.int .u64)))))) (.prod (.sl 157 (.prod (.sl 2 (.int .i64)) (.sl 58 (.prod (.int .i64) (.sl 155 (.int .u64)))))) (.prod (.sl 2 (.int .i64)) (.prod (.sl 58 (.prod (.int .i64) (.sl 155 (.int .u64)))) (.prod (.int .i64) (.int .i64))))))), none, [(0, 42), (2, 158), (3, 33), (4, 44), (5, 2), (6, 2)]⟩),
(226, ⟨true, 7, 88, [.int .i64 0, .int .i64 0, .int .i64 0, .int .i64 0, .int .i64 0, .emp 155 (.int .u64), .emp 2 (.int .i64)], some (.prod (.int .i64) (.prod (.int .i64) (.prod (.int .i64) (.prod (.int .i64) (.prod (.int .i64) (.prod (.sl 155 (.int .u64)) (.sl 2 (.int .i64)))))))), none, [(0, 2), (1, 2), (2, 2), (3, 2), (4, 131), (6, 33)]⟩),
(255, ⟨false, 1, 8, [.undef], none, none, []⟩),
(256, ⟨false, 1, 8, [.undef], none, none, []⟩)]
noncomputable def fns : List (Nat × Func) := [(6, Try.f6), (32, Try.f32), (37, Try.f37), (38, Try.f38), (39, Try.f39), (40, Try.f40), (41, Try.f41), (42, Try.f42), (87, Try.f87), (93, Try.f93), (99, Try.f99), (101, Try.f101), (102, Try.f102), (103, Try.f103), (108, Try.f108), (110, Try.f110), (111, Try.f111), (112, Try.f112), (113, Try.f113), (114, Try.f114), (115, Try.f115), (116, Try.f116), (117, Try.f117), (118, Try.f118), (128, Try.f128), (133, Try.f133), (159, Try.f159), (164, Try.f164), (168, Try.f168), (169, Try.f169), (170, Try.f170), (171, Try.f171), (179, Try.f179), (180, Try.f180), (181, Try.f181), (189, Try.f189), (190, Try.f190), (193, Try.f193), (204, Try.f204), (211, Try.f211), (212, Try.f212), (216, Try.f216)]
def fis : List (Nat × Fi) := [
(6, ⟨[], [], [(11, ⟨⟨[3, 4, 5, 6, 9, 11], []⟩, [(0, ⟨[3, 4, 5, 9], []⟩)], ⟨[2], []⟩⟩)]⟩),
(32, ⟨[], [], []⟩),
(37, ⟨[], [some 0, none, none], [(5, ⟨⟨[6, 7, 8, 9], [(8, 0, .own 99)]⟩, [(0, ⟨[6, 7, 8], []⟩)], ⟨[2, 3, 4, 5], []⟩⟩)]⟩),
(38, ⟨[], [], [(5, ⟨⟨[0, 1, 2, 3, 10, 11], []⟩, [(0, ⟨[0, 1, 2, 3, 10], []⟩)], ⟨[8, 9], []⟩⟩), (10, ⟨⟨[0, 1, 2, 3, 10, 12], [(10, 0, .own 99)]⟩, [(2, ⟨[10], []⟩)], ⟨[8, 9], []⟩⟩)]⟩),
(39, ⟨[], [], [(5, ⟨⟨[0, 2, 3, 10, 29, 30, 31], []⟩, [(0, ⟨[0, 2, 3, 10], []⟩)], ⟨[8, 9], []⟩⟩), (11, ⟨⟨[0, 2, 10, 13, 42, 43, 44], []⟩, [(2, ⟨[10], []⟩)], ⟨[8, 9], []⟩⟩)]⟩),
(40, ⟨[], [], [(2, ⟨⟨[0, 1, 5], []⟩, [(0, ⟨[], []⟩)], ⟨[4], []⟩⟩)]⟩),
(41, ⟨[], [], [(4, ⟨⟨[2, 3, 5], []⟩, [(0, ⟨[], []⟩)], ⟨[4], []⟩⟩)]⟩),
(42, ⟨[], [], [(4, ⟨⟨[0, 1, 5], []⟩, [(0, ⟨[], []⟩)], ⟨[4], []⟩⟩)]⟩),
(87, ⟨[], [], [(4, ⟨⟨[1, 3], []⟩, [(0, ⟨[], []⟩)], ⟨[2], []⟩⟩)]⟩),
(93, ⟨[], [], []⟩),
(99, ⟨[], [], []⟩),
(101, ⟨[1], [], []⟩),
(102, ⟨[1], [], []⟩),
(103, ⟨[], [], []⟩),
(108, ⟨[], [], []⟩),
(110, ⟨[], [], [(5, ⟨⟨[0, 2, 4, 5], []⟩, [(0, ⟨[2, 4], []⟩)], ⟨[2, 3], []⟩⟩)]⟩),
(111, ⟨[1], [], [(3, ⟨⟨[0, 3, 4], [(3, 0, .own 99)]⟩, [(0, ⟨[3], []⟩)], ⟨[2], []⟩⟩)]⟩),
(112, ⟨[1], [none], [(3, ⟨⟨[0, 1, 5, 6], [(5, 0, .own 99)]⟩, [(0, ⟨[0, 5], []⟩)], ⟨[4], []⟩⟩)]⟩),
(113, ⟨[], [], [(4, ⟨⟨[0, 1, 5], []⟩, [(0, ⟨[], []⟩)], ⟨[4], []⟩⟩)]⟩),
(114, ⟨[], [], [(2, ⟨⟨[0, 1, 5], []⟩, [(0, ⟨[], []⟩)], ⟨[4], []⟩⟩)]⟩),
(115, ⟨[], [], []⟩),
(116, ⟨[], [], []⟩),
(117, ⟨[], [], [(4, ⟨⟨[0, 12, 13, 14], []⟩, [(0, ⟨[], []⟩)], ⟨[4], []⟩⟩)]⟩),
(118, ⟨[], [], []⟩),
(128, ⟨[], [], [(5, ⟨⟨[0, 3, 9, 10, 11], []⟩, [(0, ⟨[3], []⟩)], ⟨[2], []⟩⟩)]⟩),
(133, ⟨[], [], [(5, ⟨⟨[0, 3, 4], []⟩, [(0, ⟨[3], []⟩)], ⟨[2], []⟩⟩), (10, ⟨⟨[0, 3, 4, 5], []⟩, [(2, ⟨[0, 3, 4], []⟩)], ⟨[2], []⟩⟩)]⟩),
(159, ⟨[], [], []⟩),
(164, ⟨[], [], []⟩),
(168, ⟨[1], [], []⟩),
(169, ⟨[1], [], []⟩),
(170, ⟨[1], [], [(5, ⟨⟨[1, 4, 5, 6, 7, 8], [(5, 0, .own 99)]⟩, [(0, ⟨[4, 5], []⟩)], ⟨[4], []⟩⟩)]⟩),
(171, ⟨[1], [], []⟩),
(179, ⟨[1], [], [(3, ⟨⟨[0, 3, 4], []⟩, [(0, ⟨[3], []⟩)], ⟨[2], []⟩⟩)]⟩),
(180, ⟨[1], [], []⟩),
(181, ⟨[], [], []⟩),
(189, ⟨[], [], [(4, ⟨⟨[0, 3], []⟩, [(0, ⟨[], []⟩)], ⟨[2], []⟩⟩)]⟩),
(190, ⟨[], [], []⟩),
(193, ⟨[], [], [(4, ⟨⟨[0, 3], []⟩, [(0, ⟨[], []⟩)], ⟨[2], []⟩⟩)]⟩),
(204, ⟨[1], [], []⟩),
(211, ⟨[], [], [(2, ⟨⟨[0, 1, 7, 8], []⟩, [(0, ⟨[], []⟩)], ⟨[4], []⟩⟩)]⟩),
(212, ⟨[], [], []⟩),
(216, ⟨[], [], []⟩)]
def fiF (f : Nat) : Fi := (look f fis).getD ⟨[], [], []⟩
noncomputable def C : Ctx := { ti := fun t => look t tis, fs := fun f => look f fns, fi := fiF }
def bodyOf (f : Func) : Code := f.body.getD .skip
def loopOf (f : Func) (k : Nat) : Code := (findLoop k (bodyOf f)).getD .skip
def cutOf (f : Func) (k : Nat) : Code := (findCut k (bodyOf f)).getD .skip
def liOf (l : List (Nat × Li)) (k : Nat) : Li := (look k l).getD ⟨⟨[], []⟩, [], ⟨[], []⟩⟩
theorem tis_ok : (tis.all fun x => tiB Try.prog x.1 x.2) = true := by kernel_rfl
theorem fns_all : (fns.all fun x => fnB (fiF x.1) x.2) = true := by kernel_rfl
theorem fnp (f : Nat) (x : Func) (r : List (Nat × Func)) (h : Try.prog.funcs[f]? = some x) (hr : ∀ y ∈ r, Try.prog.funcs[y.1]? = some y.2) : ∀ y ∈ (f, x) :: r, Try.prog.funcs[y.1]? = some y.2 := List.forall_mem_cons.2 ⟨h, hr⟩
set_option maxRecDepth 100000 in
theorem fns_prog : ∀ x ∈ fns, Try.prog.funcs[x.1]? = some x.2 := (fnp _ _ _ Try.func6
(fnp _ _ _ Try.func32
(fnp _ _ _ Try.func37
(fnp _ _ _ Try.func38
(fnp _ _ _ Try.func39
(fnp _ _ _ Try.func40
(fnp _ _ _ Try.func41
(fnp _ _ _ Try.func42
(fnp _ _ _ Try.func87
(fnp _ _ _ Try.func93
(fnp _ _ _ Try.func99
(fnp _ _ _ Try.func101
(fnp _ _ _ Try.func102
(fnp _ _ _ Try.func103
(fnp _ _ _ Try.func108
(fnp _ _ _ Try.func110
(fnp _ _ _ Try.func111
(fnp _ _ _ Try.func112
(fnp _ _ _ Try.func113
(fnp _ _ _ Try.func114
(fnp _ _ _ Try.func115
(fnp _ _ _ Try.func116
(fnp _ _ _ Try.func117
(fnp _ _ _ Try.func118
(fnp _ _ _ Try.func128
(fnp _ _ _ Try.func133
(fnp _ _ _ Try.func159
(fnp _ _ _ Try.func164
(fnp _ _ _ Try.func168
(fnp _ _ _ Try.func169
(fnp _ _ _ Try.func170
(fnp _ _ _ Try.func171
(fnp _ _ _ Try.func179
(fnp _ _ _ Try.func180
(fnp _ _ _ Try.func181
(fnp _ _ _ Try.func189
(fnp _ _ _ Try.func190
(fnp _ _ _ Try.func193
(fnp _ _ _ Try.func204
(fnp _ _ _ Try.func211
(fnp _ _ _ Try.func212
(fnp _ _ _ Try.func216
(fun _ h => by cases h)))))))))))))))))))))))))))))))))))))))))))
theorem C_ok : CtxOK Try.prog C := ctx_ok tis_ok fns_prog
theorem C_fns : FnsOK Try.prog C := Go.Vsi.fns_ok fns_all
theorem C_follows : Try.prog.follows .mixedOrders = true := by kernel_rfl
def D0 (n : Nat) : CallF := noC
theorem D0_ok {X0 : CallF} (hX : CallF.Mono X0) : ∀ n g a K, D0 n g a K → callM C X0 n g a K := fun n => noC_ok
end Go.Vsi
end

section
set_option linter.unusedVariables false
namespace Go.Vsi
open Go.Proofs
section
variable {X0 : CallF} (hX : CallF.Mono X0)
include hX
abbrev spec_l8CopyBits.a : List TS := [.a [.o (.int .i64), .o (.dat 155 (.int .u64))]]
def spec_l8CopyBits.u (n : Nat) (v : VA spec_l8CopyBits.a) (K : RES → Prop) : Prop := spec_l8CopyBits.c n v.1.1 v.1.2.1 (fun r0 r1 => K ⟨.agg [.int .i64 r0, .row ⟨155, .int .u64, r1, 99, none⟩], []⟩)
theorem spec_l8CopyBits_ok : ∀ n v K, spec_l8CopyBits.u n v K → callM C X0 n 115 (fillA spec_l8CopyBits.a v) K :=
 call_tell hX (fn := Try.f115) (c := bodyOf Try.f115) (by kernel_rfl) (by kernel_rfl) (A := spec_l8CopyBits.a) (u := spec_l8CopyBits.u) (fun _ _ h => h) (call := D0) (lp := fun n => noL) (D0_ok hX) (fun n => noL_ok) (fun n v K => by kernel_rfl)
def D1 (n : Nat) : CallF := orC 115 spec_l8CopyBits.a (spec_l8CopyBits.u n) (D0 n)
theorem D1_ok : ∀ n g a K, D1 n g a K → callM C X0 n g a K := fun n => orC_ok (spec_l8CopyBits_ok hX n) (D0_ok hX n)
abbrev slices_Clone_uint64.a : List TS := [.c (.o (.dat 155 (.int .u64)))]
def slices_Clone_uint64.u (n : Nat) (v : VA slices_Clone_uint64.a) (K : RES → Prop) : Prop := slices_Clone_uint64.c n v.1 (fun r0 => K ⟨.c (.row ⟨155, .int .u64, r0, 99, none⟩), []⟩)
theorem slices_Clone_uint64_ok : ∀ n v K, slices_Clone_uint64.u n v K → callM C X0 n 181 (fillA slices_Clone_uint64.a v) K :=
 call_tell hX (fn := Try.f181) (c := bodyOf Try.f181) (by kernel_rfl) (by kernel_rfl) (A := slices_Clone_uint64.a) (u := slices_Clone_uint64.u) (fun _ _ h => h) (call := D1) (lp := fun n => noL) (D1_ok hX) (fun n => noL_ok) (fun n v K => by kernel_rfl)
def D2 (n : Nat) : CallF := orC 181 slices_Clone_uint64.a (slices_Clone_uint64.u n) (D1 n)
theorem D2_ok : ∀ n g a K, D2 n g a K → callM C X0 n g a K := fun n => orC_ok (slices_Clone_uint64_ok hX n) (D1_ok hX n)
abbrev impl_cloneBits.a : List TS := [.a [.o (.int .i64), .o (.dat 155 (.int .u64))]]
def impl_cloneBits.u (n : Nat) (v : VA impl_cloneBits.a) (K : RES → Prop) : Prop := impl_cloneBits.c n v.1.1 v.1.2.1 (fun r0 r1 => K ⟨.agg [.int .i64 r0, .row ⟨155, .int .u64, r1, 99, none⟩], []⟩)
theorem impl_cloneBits_ok : ∀ n v K, impl_cloneBits.u n v K → callM C X0 n 118 (fillA impl_cloneBits.a v) K :=
 call_tell hX (fn := Try.f118) (c := bodyOf Try.f118) (by kernel_rfl) (by kernel_rfl) (A := impl_cloneBits.a) (u := impl_cloneBits.u) (fun _ _ h => h) (call := D2) (lp := fun n => noL) (D2_ok hX) (fun n => noL_ok) (fun n v K => by kernel_rfl)
def D3 (n : Nat) : CallF := orC 118 impl_cloneBits.a (impl_cloneBits.u n) (D2 n)
theorem D3_ok : ∀ n g a K, D3 n g a K → callM C X0 n g a K := fun n => orC_ok (impl_cloneBits_ok hX n) (D2_ok hX n)
abbrev spec_l1In.a : List TS := [.c (.o (.int .i64)), .c (.o (.int .i64)), .c (.o (.int .i64))]
def spec_l1In.u (n : Nat) (v : VA spec_l1In.a) (K : RES → Prop) : Prop := spec_l1In.c n v.1 v.2.1 v.2.2.1 (fun r0 => K ⟨.c (.bool r0), []⟩)
theorem spec_l1In_ok : ∀ n v K, spec_l1In.u n v K → callM C X0 n 103 (fillA spec_l1In.a v) K :=
 call_tell hX (fn := Try.f103) (c := bodyOf Try.f103) (by kernel_rfl) (by kernel_rfl) (A := spec_l1In.a) (u := spec_l1In.u) (fun _ _ h => h) (call := D3) (lp := fun n => noL) (D3_ok hX) (fun n => noL_ok) (fun n v K => by kernel_rfl)
def D4 (n : Nat) : CallF := orC 103 spec_l1In.a (spec_l1In.u n) (D3 n)
theorem D4_ok : ∀ n g a K, D4 n g a K → callM C X0 n g a K := fun n => orC_ok (spec_l1In_ok hX n) (D3_ok hX n)
abbrev spec_l1Bit.a : List TS := [.a [.o (.int .i64), .o (.dat 155 (.int .u64))], .c (.o (.int .i64))]
def spec_l1Bit.u (n : Nat) (v : VA spec_l1Bit.a) (K : RES → Prop) : Prop := spec_l1Bit.c n v.1.1 v.1.2.1 v.2.1 (fun r0 => K ⟨.c (.int .u8 r0), []⟩)
theorem spec_l1Bit_ok : ∀ n v K, spec_l1Bit.u n v K → callM C X0 n 159 (fillA spec_l1Bit.a v) K :=
 call_tell hX (fn := Try.f159) (c := bodyOf Try.f159) (by kernel_rfl) (by kernel_rfl) (A := spec_l1Bit.a) (u := spec_l1Bit.u) (fun _ _ h => h) (call := D4) (lp := fun n => noL) (D4_ok hX) (fun n => noL_ok) (fun n v K => by kernel_rfl)
def D5 (n : Nat) : CallF := orC 159 spec_l1Bit.a (spec_l1Bit.u n) (D4 n)
theorem D5_ok : ∀ n g a K, D5 n g a K → callM C X0 n g a K := fun n => orC_ok (spec_l1Bit_ok hX n) (D4_ok hX n)
abbrev spec_BitsOk.a : List TS := [.a [.o (.int .i64), .o (.dat 155 (.int .u64))]]
def spec_BitsOk.u (n : Nat) (v : VA spec_BitsOk.a) (K : RES → Prop) : Prop := spec_BitsOk.c n v.1.1 v.1.2.1 (fun r0 => K ⟨.c (.bool r0), []⟩)
abbrev spec_BitsOk.l4.s : ST := ⟨[(1, .c (.o (.pbox 1 0))), (3, .c (.o (.int .i64)))], [], [⟨1, 58, [.o (.int .i64), .o (.dat 155 (.int .u64))], false⟩], [], []⟩
def spec_BitsOk.l4.u (n : Nat) (v : spec_BitsOk.l4.s.V) (K : X → St → Prop) : Prop := spec_BitsOk.l4 n v.2.2.1.1 v.2.2.1.2.1 v.1.2.1 (K (.exit 0) ⟨[], [], [], [], []⟩) (fun y0 => K .ret ⟨[(2, .c (.bool y0))], [], [], [], []⟩)
theorem spec_BitsOk.l4_ok : ∀ n v K, spec_BitsOk.l4.u n v K → loopM C X0 n 87 4 (spec_BitsOk.l4.s.fill v) K :=
 loop_tell hX (fn := Try.f87) (c := bodyOf Try.f87) (a := loopOf Try.f87 4) (li := liOf (C.fi 87).loops 4) (by kernel_rfl) (by kernel_rfl) (of_decide_eq_true rfl) (by kernel_rfl) (by kernel_rfl) (T := spec_BitsOk.l4.s) (u := spec_BitsOk.l4.u) (fun _ _ h => h) (call := D5) (lp := fun n => noL) (D5_ok hX) (fun n => noL_ok) (fun n v K => by kernel_rfl)
theorem spec_BitsOk_ok : ∀ n v K, spec_BitsOk.u n v K → callM C X0 n 87 (fillA spec_BitsOk.a v) K :=
 call_tell hX (fn := Try.f87) (c := bodyOf Try.f87) (by kernel_rfl) (by kernel_rfl) (A := spec_BitsOk.a) (u := spec_BitsOk.u) (fun _ _ h => h) (call := D5) (lp := fun n => orL 4 spec_BitsOk.l4.s (spec_BitsOk.l4.u n) noL) (D5_ok hX) (fun n => (orL_ok (spec_BitsOk.l4_ok hX n) noL_ok)) (fun n v K => by kernel_rfl)
def D6 (n : Nat) : CallF := orC 87 spec_BitsOk.a (spec_BitsOk.u n) (D5 n)
theorem D6_ok : ∀ n g a K, D6 n g a K → callM C X0 n g a K := fun n => orC_ok (spec_BitsOk_ok hX n) (D5_ok hX n)
abbrev impl_inside.a : List TS := [.c (.o (.int .i64)), .c (.o (.int .i64)), .c (.o (.int .i64))]
def impl_inside.u (n : Nat) (v : VA impl_inside.a) (K : RES → Prop) : Prop := impl_inside.c n v.1 v.2.1 v.2.2.1 (fun r0 => K ⟨.c (.bool r0), []⟩)
theorem impl_inside_ok : ∀ n v K, impl_inside.u n v K → callM C X0 n 108 (fillA impl_inside.a v) K :=
 call_tell hX (fn := Try.f108) (c := bodyOf Try.f108) (by kernel_rfl) (by kernel_rfl) (A := impl_inside.a) (u := impl_inside.u) (fun _ _ h => h) (call := D6) (lp := fun n => noL) (D6_ok hX) (fun n => noL_ok) (fun n v K => by kernel_rfl)
def D7 (n : Nat) : CallF := orC 108 impl_inside.a (impl_inside.u n) (D6 n)
theorem D7_ok : ∀ n g a K, D7 n g a K → callM C X0 n g a K := fun n => orC_ok (impl_inside_ok hX n) (D6_ok hX n)
abbrev impl_wordsFor.a : List TS := [.c (.o (.int .i64))]
def impl_wordsFor.u (n : Nat) (v : VA impl_wordsFor.a) (K : RES → Prop) : Prop := impl_wordsFor.c n v.1 (fun r0 => K ⟨.c (.int .i64 r0), []⟩)
theorem impl_wordsFor_ok : ∀ n v K, impl_wordsFor.u n v K → callM C X0 n 164 (fillA impl_wordsFor.a v) K :=
 call_tell hX (fn := Try.f164) (c := bodyOf Try.f164) (by kernel_rfl) (by kernel_rfl) (A := impl_wordsFor.a) (u := impl_wordsFor.u) (fun _ _ h => h) (call := D7) (lp := fun n => noL) (D7_ok hX) (fun n => noL_ok) (fun n v K => by kernel_rfl)
def D8 (n : Nat) : CallF := orC 164 impl_wordsFor.a (impl_wordsFor.u n) (D7 n)
theorem D8_ok : ∀ n g a K, D8 n g a K → callM C X0 n g a K := fun n => orC_ok (impl_wordsFor_ok hX n) (D7_ok hX n)
abbrev impl_BitsOk.a : List TS := [.a [.o (.int .i64), .o (.dat 155 (.int .u64))]]
def impl_BitsOk.u (n : Nat) (v : VA impl_BitsOk.a) (K : RES → Prop) : Prop := impl_BitsOk.c n v.1.1 v.1.2.1 (fun r0 => K ⟨.c (.bool r0), []⟩)
theorem impl_BitsOk_ok : ∀ n v K, impl_BitsOk.u n v K → callM C X0 n 93 (fillA impl_BitsOk.a v) K :=
 call_tell hX (fn := Try.f93) (c := bodyOf Try.f93) (by kernel_rfl) (by kernel_rfl) (A := impl_BitsOk.a) (u := impl_BitsOk.u) (fun _ _ h => h) (call := D8) (lp := fun n => noL) (D8_ok hX) (fun n => noL_ok) (fun n v K => by kernel_rfl)
def D9 (n : Nat) : CallF := orC 93 impl_BitsOk.a (impl_BitsOk.u n) (D8 n)
theorem D9_ok : ∀ n g a K, D9 n g a K → callM C X0 n g a K := fun n => orC_ok (impl_BitsOk_ok hX n) (D8_ok hX n)
abbrev spec_l1Has.a : List TS := [.c (.o (.dat 2 (.int .i64))), .c (.o (.int .i64))]
def spec_l1Has.u (n : Nat) (v : VA spec_l1Has.a) (K : RES → Prop) : Prop := spec_l1Has.c n v.1 v.2.1 (fun r0 => K ⟨.c (.bool r0), []⟩)
abbrev spec_l1Has.l2.s : ST := ⟨[(0, .c (.o (.dat 2 (.int .i64)))), (1, .c (.o (.int .i64))), (5, .c (.o (.int .i64)))], [], [], [], []⟩
def spec_l1Has.l2.u (n : Nat) (v : spec_l1Has.l2.s.V) (K : X → St → Prop) : Prop := spec_l1Has.l2 n v.1.1 v.1.2.1 v.1.2.2.1 (K (.exit 0) ⟨[], [], [], [], []⟩) (fun y0 => K .ret ⟨[(4, .c (.bool y0))], [], [], [], []⟩)
theorem spec_l1Has.l2_ok : ∀ n v K, spec_l1Has.l2.u n v K → loopM C X0 n 114 2 (spec_l1Has.l2.s.fill v) K :=
 loop_tell hX (fn := Try.f114) (c := bodyOf Try.f114) (a := loopOf Try.f114 2) (li := liOf (C.fi 114).loops 2) (by kernel_rfl) (by kernel_rfl) (of_decide_eq_true rfl) (by kernel_rfl) (by kernel_rfl) (T := spec_l1Has.l2.s) (u := spec_l1Has.l2.u) (fun _ _ h => h) (call := D9) (lp := fun n => noL) (D9_ok hX) (fun n => noL_ok) (fun n v K => by kernel_rfl)
theorem spec_l1Has_ok : ∀ n v K, spec_l1Has.u n v K → callM C X0 n 114 (fillA spec_l1Has.a v) K :=
 call_tell hX (fn := Try.f114) (c := bodyOf Try.f114) (by kernel_rfl) (by kernel_rfl) (A := spec_l1Has.a) (u := spec_l1Has.u) (fun _ _ h => h) (call := D9) (lp := fun n => orL 2 spec_l1Has.l2.s (spec_l1Has.l2.u n) noL) (D9_ok hX) (fun n => (orL_ok (spec_l1Has.l2_ok hX n) noL_ok)) (fun n v K => by kernel_rfl)
def D10 (n : Nat) : CallF := orC 114 spec_l1Has.a (spec_l1Has.u n) (D9 n)
theorem D10_ok : ∀ n g a K, D10 n g a K → callM C X0 n g a K := fun n => orC_ok (spec_l1Has_ok hX n) (D9_ok hX n)
abbrev spec_l1Digit.a : List TS := [.c (.o (.int .u8))]
def spec_l1Digit.u (n : Nat) (v : VA spec_l1Digit.a) (K : RES → Prop) : Prop := spec_l1Digit.c n v.1 (fun r0 => K ⟨.c (.bool r0), []⟩)
theorem spec_l1Digit_ok : ∀ n v K, spec_l1Digit.u n v K → callM C X0 n 216 (fillA spec_l1Digit.a v) K :=
 call_tell hX (fn := Try.f216) (c := bodyOf Try.f216) (by kernel_rfl) (by kernel_rfl) (A := spec_l1Digit.a) (u := spec_l1Digit.u) (fun _ _ h => h) (call := D10) (lp := fun n => noL) (D10_ok hX) (fun n => noL_ok) (fun n v K => by kernel_rfl)
def D11 (n : Nat) : CallF := orC 216 spec_l1Digit.a (spec_l1Digit.u n) (D10 n)
theorem D11_ok : ∀ n g a K, D11 n g a K → callM C X0 n g a K := fun n => orC_ok (spec_l1Digit_ok hX n) (D10_ok hX n)
abbrev spec_l1Name.a : List TS := [.c (.o .str)]
def spec_l1Name.u (n : Nat) (v : VA spec_l1Name.a) (K : RES → Prop) : Prop := spec_l1Name.c n v.1 (fun r0 => K ⟨.c (.bool r0), []⟩)
abbrev spec_l1Name.l4.s : ST := ⟨[(0, .c (.o .str)), (3, .c (.o (.int .i64)))], [], [], [], []⟩
def spec_l1Name.l4.u (n : Nat) (v : spec_l1Name.l4.s.V) (K : X → St → Prop) : Prop := spec_l1Name.l4 n v.1.1 v.1.2.1 (K (.exit 0) ⟨[], [], [], [], []⟩) (fun y0 => K .ret ⟨[(2, .c (.bool y0))], [], [], [], []⟩)
theorem spec_l1Name.l4_ok : ∀ n v K, spec_l1Name.l4.u n v K → loopM C X0 n 193 4 (spec_l1Name.l4.s.fill v) K :=
 loop_tell hX (fn := Try.f193) (c := bodyOf Try.f193) (a := loopOf Try.f193 4) (li := liOf (C.fi 193).loops 4) (by kernel_rfl) (by kernel_rfl) (of_decide_eq_true rfl) (by kernel_rfl) (by kernel_rfl) (T := spec_l1Name.l4.s) (u := spec_l1Name.l4.u) (fun _ _ h => h) (call := D11) (lp := fun n => noL) (D11_ok hX) (fun n => noL_ok) (fun n v K => by kernel_rfl)
theorem spec_l1Name_ok : ∀ n v K, spec_l1Name.u n v K → callM C X0 n 193 (fillA spec_l1Name.a v) K :=
 call_tell hX (fn := Try.f193) (c := bodyOf Try.f193) (by kernel_rfl) (by kernel_rfl) (A := spec_l1Name.a) (u := spec_l1Name.u) (fun _ _ h => h) (call := D11) (lp := fun n => orL 4 spec_l1Name.l4.s (spec_l1Name.l4.u n) noL) (D11_ok hX) (fun n => (orL_ok (spec_l1Name.l4_ok hX n) noL_ok)) (fun n v K => by kernel_rfl)
def D12 (n : Nat) : CallF := orC 193 spec_l1Name.a (spec_l1Name.u n) (D11 n)
theorem D12_ok : ∀ n g a K, D12 n g a K → callM C X0 n g a K := fun n => orC_ok (spec_l1Name_ok hX n) (D11_ok hX n)
abbrev spec_DeclsOk.a : List TS := [.c (.o (.dat 167 (.prod .str (.int .i64))))]
def spec_DeclsOk.u (n : Nat) (v : VA spec_DeclsOk.a) (K : RES → Prop) : Prop := spec_DeclsOk.c n v.1 (fun r0 => K ⟨.c (.bool r0), []⟩)
abbrev spec_DeclsOk.l10.s : ST := ⟨[(0, .c (.o (.dat 167 (.prod .str (.int .i64))))), (3, .c (.o (.int .i64))), (4, .c (.o (.int .i64))), (5, .c (.o (.int .i64)))], [], [], [], []⟩
def spec_DeclsOk.l10.u (n : Nat) (v : spec_DeclsOk.l10.s.V) (K : X → St → Prop) : Prop := spec_DeclsOk.l10 n v.1.1 v.1.2.1 v.1.2.2.1 v.1.2.2.2.1 (fun y0 y1 y2 => K (.exit 2) ⟨[(0, .c (.dat 167 (.prod .str (.int .i64)) y0)), (3, .c (.int .i64 y1)), (4, .c (.int .i64 y2))], [], [], [], []⟩) (fun y0 => K .ret ⟨[(2, .c (.bool y0))], [], [], [], []⟩)
abbrev spec_DeclsOk.l5.s : ST := ⟨[(0, .c (.o (.dat 167 (.prod .str (.int .i64))))), (3, .c (.o (.int .i64))), (4, .c (.o (.int .i64)))], [], [], [], []⟩
def spec_DeclsOk.l5.u (n : Nat) (v : spec_DeclsOk.l5.s.V) (K : X → St → Prop) : Prop := spec_DeclsOk.l5 n v.1.1 v.1.2.1 v.1.2.2.1 (fun y0 => K (.exit 0) ⟨[(3, .c (.int .i64 y0))], [], [], [], []⟩) (fun y0 => K .ret ⟨[(2, .c (.bool y0))], [], [], [], []⟩)
theorem spec_DeclsOk.l10_ok : ∀ n v K, spec_DeclsOk.l10.u n v K → loopM C X0 n 133 10 (spec_DeclsOk.l10.s.fill v) K :=
 loop_tell hX (fn := Try.f133) (c := bodyOf Try.f133) (a := loopOf Try.f133 10) (li := liOf (C.fi 133).loops 10) (by kernel_rfl) (by kernel_rfl) (of_decide_eq_true rfl) (by kernel_rfl) (by kernel_rfl) (T := spec_DeclsOk.l10.s) (u := spec_DeclsOk.l10.u) (fun _ _ h => h) (call := D12) (lp := fun n => noL) (D12_ok hX) (fun n => noL_ok) (fun n v K => by kernel_rfl)
theorem spec_DeclsOk.l5_ok : ∀ n v K, spec_DeclsOk.l5.u n v K → loopM C X0 n 133 5 (spec_DeclsOk.l5.s.fill v) K :=
 loop_tell hX (fn := Try.f133) (c := bodyOf Try.f133) (a := loopOf Try.f133 5) (li := liOf (C.fi 133).loops 5) (by kernel_rfl) (by kernel_rfl) (of_decide_eq_true rfl) (by kernel_rfl) (by kernel_rfl) (T := spec_DeclsOk.l5.s) (u := spec_DeclsOk.l5.u) (fun _ _ h => h) (call := D12) (lp := fun n => orL 10 spec_DeclsOk.l10.s (spec_DeclsOk.l10.u n) noL) (D12_ok hX) (fun n => (orL_ok (spec_DeclsOk.l10_ok hX n) noL_ok)) (fun n v K => by kernel_rfl)
theorem spec_DeclsOk_ok : ∀ n v K, spec_DeclsOk.u n v K → callM C X0 n 133 (fillA spec_DeclsOk.a v) K :=
 call_tell hX (fn := Try.f133) (c := bodyOf Try.f133) (by kernel_rfl) (by kernel_rfl) (A := spec_DeclsOk.a) (u := spec_DeclsOk.u) (fun _ _ h => h) (call := D12) (lp := fun n => orL 5 spec_DeclsOk.l5.s (spec_DeclsOk.l5.u n) noL) (D12_ok hX) (fun n => (orL_ok (spec_DeclsOk.l5_ok hX n) noL_ok)) (fun n v K => by kernel_rfl)
def D13 (n : Nat) : CallF := orC 133 spec_DeclsOk.a (spec_DeclsOk.u n) (D12 n)
theorem D13_ok : ∀ n g a K, D13 n g a K → callM C X0 n g a K := fun n => orC_ok (spec_DeclsOk_ok hX n) (D12_ok hX n)
abbrev impl_nameOk.a : List TS := [.c (.o .str)]
def impl_nameOk.u (n : Nat) (v : VA impl_nameOk.a) (K : RES → Prop) : Prop := impl_nameOk.c n v.1 (fun r0 => K ⟨.c (.bool r0), []⟩)
abbrev impl_nameOk.l4.s : ST := ⟨[(0, .c (.o .str)), (3, .c (.o (.int .i64)))], [], [], [], []⟩
def impl_nameOk.l4.u (n : Nat) (v : impl_nameOk.l4.s.V) (K : X → St → Prop) : Prop := impl_nameOk.l4 n v.1.1 v.1.2.1 (K (.exit 0) ⟨[], [], [], [], []⟩) (fun y0 => K .ret ⟨[(2, .c (.bool y0))], [], [], [], []⟩)
theorem impl_nameOk.l4_ok : ∀ n v K, impl_nameOk.l4.u n v K → loopM C X0 n 189 4 (impl_nameOk.l4.s.fill v) K :=
 loop_tell hX (fn := Try.f189) (c := bodyOf Try.f189) (a := loopOf Try.f189 4) (li := liOf (C.fi 189).loops 4) (by kernel_rfl) (by kernel_rfl) (of_decide_eq_true rfl) (by kernel_rfl) (by kernel_rfl) (T := impl_nameOk.l4.s) (u := impl_nameOk.l4.u) (fun _ _ h => h) (call := D13) (lp := fun n => noL) (D13_ok hX) (fun n => noL_ok) (fun n v K => by kernel_rfl)
theorem impl_nameOk_ok : ∀ n v K, impl_nameOk.u n v K → callM C X0 n 189 (fillA impl_nameOk.a v) K :=
 call_tell hX (fn := Try.f189) (c := bodyOf Try.f189) (by kernel_rfl) (by kernel_rfl) (A := impl_nameOk.a) (u := impl_nameOk.u) (fun _ _ h => h) (call := D13) (lp := fun n => orL 4 impl_nameOk.l4.s (impl_nameOk.l4.u n) noL) (D13_ok hX) (fun n => (orL_ok (impl_nameOk.l4_ok hX n) noL_ok)) (fun n v K => by kernel_rfl)
def D14 (n : Nat) : CallF := orC 189 impl_nameOk.a (impl_nameOk.u n) (D13 n)
theorem D14_ok : ∀ n g a K, D14 n g a K → callM C X0 n g a K := fun n => orC_ok (impl_nameOk_ok hX n) (D13_ok hX n)
abbrev impl_declared_1.a : List TS := [.a [.o .str, .o (.int .i64)], .c (.o (.pdat 9 .str 0))]
def impl_declared_1.u (n : Nat) (v : VA impl_declared_1.a) (K : RES → Prop) : Prop := impl_declared_1.c n v.1.1 v.1.2.1 v.2.1 (fun r0 => K ⟨.c (.bool r0), []⟩)
theorem impl_declared_1_ok : ∀ n v K, impl_declared_1.u n v K → callM C X0 n 212 (fillA impl_declared_1.a v) K :=
 call_tell hX (fn := Try.f212) (c := bodyOf Try.f212) (by kernel_rfl) (by kernel_rfl) (A := impl_declared_1.a) (u := impl_declared_1.u) (fun _ _ h => h) (call := D14) (lp := fun n => noL) (D14_ok hX) (fun n => noL_ok) (fun n v K => by kernel_rfl)
def D15 (n : Nat) : CallF := orC 212 impl_declared_1.a (impl_declared_1.u n) (D14 n)
theorem D15_ok : ∀ n g a K, D15 n g a K → callM C X0 n g a K := fun n => orC_ok (impl_declared_1_ok hX n) (D14_ok hX n)
abbrev slices_IndexFunc_Decl__impl_declared_1.a : List TS := [.c (.o (.dat 167 (.prod .str (.int .i64)))), .c (.fn 212 [(false, 1)] 0 [.pdat 9 .str 0])]
def slices_IndexFunc_Decl__impl_declared_1.u (n : Nat) (v : VA slices_IndexFunc_Decl__impl_declared_1.a) (K : RES → Prop) : Prop := slices_IndexFunc_Decl__impl_declared_1.c n v.1 v.2.1.1 (fun r0 => K ⟨.c (.int .i64 r0), []⟩)
abbrev slices_IndexFunc_Decl__impl_declared_1.l2.s : ST := ⟨[(0, .c (.o (.dat 167 (.prod .str (.int .i64))))), (1, .c (.fn 212 [(false, 1)] 0 [.pdat 9 .str 0])), (7, .c (.o (.int .i64))), (8, .c (.o (.int .i64)))], [], [], [], []⟩
def slices_IndexFunc_Decl__impl_declared_1.l2.u (n : Nat) (v : slices_IndexFunc_Decl__impl_declared_1.l2.s.V) (K : X → St → Prop) : Prop := slices_IndexFunc_Decl__impl_declared_1.l2 n v.1.1 v.1.2.1.1 v.1.2.2.1 v.1.2.2.2.1 (K (.exit 0) ⟨[], [], [], [], []⟩) (fun y0 => K .ret ⟨[(4, .c (.int .i64 y0))], [], [], [], []⟩)
theorem slices_IndexFunc_Decl__impl_declared_1.l2_ok : ∀ n v K, slices_IndexFunc_Decl__impl_declared_1.l2.u n v K → loopM C X0 n 211 2 (slices_IndexFunc_Decl__impl_declared_1.l2.s.fill v) K :=
 loop_tell hX (fn := Try.f211) (c := bodyOf Try.f211) (a := loopOf Try.f211 2) (li := liOf (C.fi 211).loops 2) (by kernel_rfl) (by kernel_rfl) (of_decide_eq_true rfl) (by kernel_rfl) (by kernel_rfl) (T := slices_IndexFunc_Decl__impl_declared_1.l2.s) (u := slices_IndexFunc_Decl__impl_declared_1.l2.u) (fun _ _ h => h) (call := D15) (lp := fun n => noL) (D15_ok hX) (fun n => noL_ok) (fun n v K => by kernel_rfl)
theorem slices_IndexFunc_Decl__impl_declared_1_ok : ∀ n v K, slices_IndexFunc_Decl__impl_declared_1.u n v K → callM C X0 n 211 (fillA slices_IndexFunc_Decl__impl_declared_1.a v) K :=
 call_tell hX (fn := Try.f211) (c := bodyOf Try.f211) (by kernel_rfl) (by kernel_rfl) (A := slices_IndexFunc_Decl__impl_declared_1.a) (u := slices_IndexFunc_Decl__impl_declared_1.u) (fun _ _ h => h) (call := D15) (lp := fun n => orL 2 slices_IndexFunc_Decl__impl_declared_1.l2.s (slices_IndexFunc_Decl__impl_declared_1.l2.u n) noL) (D15_ok hX) (fun n => (orL_ok (slices_IndexFunc_Decl__impl_declared_1.l2_ok hX n) noL_ok)) (fun n v K => by kernel_rfl)
def D16 (n : Nat) : CallF := orC 211 slices_IndexFunc_Decl__impl_declared_1.a (slices_IndexFunc_Decl__impl_declared_1.u n) (D15 n)
theorem D16_ok : ∀ n g a K, D16 n g a K → callM C X0 n g a K := fun n => orC_ok (slices_IndexFunc_Decl__impl_declared_1_ok hX n) (D15_ok hX n)
abbrev impl_declared.a : List TS := [.c (.o (.dat 167 (.prod .str (.int .i64)))), .c (.o .str)]
def impl_declared.u (n : Nat) (v : VA impl_declared.a) (K : RES → Prop) : Prop := impl_declared.c n v.1 v.2.1 (fun r0 => K ⟨.c (.int .i64 r0), []⟩)
theorem impl_declared_ok : ∀ n v K, impl_declared.u n v K → callM C X0 n 190 (fillA impl_declared.a v) K :=
 call_tell hX (fn := Try.f190) (c := bodyOf Try.f190) (by kernel_rfl) (by kernel_rfl) (A := impl_declared.a) (u := impl_declared.u) (fun _ _ h => h) (call := D16) (lp := fun n => noL) (D16_ok hX) (fun n => noL_ok) (fun n v K => by kernel_rfl)
def D17 (n : Nat) : CallF := orC 190 impl_declared.a (impl_declared.u n) (D16 n)
theorem D17_ok : ∀ n g a K, D17 n g a K → callM C X0 n g a K := fun n => orC_ok (impl_declared_ok hX n) (D16_ok hX n)
abbrev impl_DeclsOk.a : List TS := [.c (.o (.dat 167 (.prod .str (.int .i64))))]
def impl_DeclsOk.u (n : Nat) (v : VA impl_DeclsOk.a) (K : RES → Prop) : Prop := impl_DeclsOk.c n v.1 (fun r0 => K ⟨.c (.bool r0), []⟩)
abbrev impl_DeclsOk.l5.s : ST := ⟨[(0, .c (.o (.dat 167 (.prod .str (.int .i64))))), (3, .c (.o (.int .i64))), (9, .c (.o (.dat 167 (.prod .str (.int .i64))))), (10, .c (.o (.int .i64))), (11, .c (.o (.int .i64)))], [], [], [], []⟩
def impl_DeclsOk.l5.u (n : Nat) (v : impl_DeclsOk.l5.s.V) (K : X → St → Prop) : Prop := impl_DeclsOk.l5 n v.1.1 v.1.2.2.1 v.1.2.2.2.1 v.1.2.1 v.1.2.2.2.2.1 (fun y0 => K (.exit 0) ⟨[(3, .c (.int .i64 y0))], [], [], [], []⟩) (fun y0 => K .ret ⟨[(2, .c (.bool y0))], [], [], [], []⟩)
theorem impl_DeclsOk.l5_ok : ∀ n v K, impl_DeclsOk.l5.u n v K → loopM C X0 n 128 5 (impl_DeclsOk.l5.s.fill v) K :=
 loop_tell hX (fn := Try.f128) (c := bodyOf Try.f128) (a := loopOf Try.f128 5) (li := liOf (C.fi 128).loops 5) (by kernel_rfl) (by kernel_rfl) (of_decide_eq_true rfl) (by kernel_rfl) (by kernel_rfl) (T := impl_DeclsOk.l5.s) (u := impl_DeclsOk.l5.u) (fun _ _ h => h) (call := D17) (lp := fun n => noL) (D17_ok hX) (fun n => noL_ok) (fun n v K => by kernel_rfl)
theorem impl_DeclsOk_ok : ∀ n v K, impl_DeclsOk.u n v K → callM C X0 n 128 (fillA impl_DeclsOk.a v) K :=
 call_tell hX (fn := Try.f128) (c := bodyOf Try.f128) (by kernel_rfl) (by kernel_rfl) (A := impl_DeclsOk.a) (u := impl_DeclsOk.u) (fun _ _ h => h) (call := D17) (lp := fun n => orL 5 impl_DeclsOk.l5.s (impl_DeclsOk.l5.u n) noL) (D17_ok hX) (fun n => (orL_ok (impl_DeclsOk.l5_ok hX n) noL_ok)) (fun n v K => by kernel_rfl)
def D18 (n : Nat) : CallF := orC 128 impl_DeclsOk.a (impl_DeclsOk.u n) (D17 n)
theorem D18_ok : ∀ n g a K, D18 n g a K → callM C X0 n g a K := fun n => orC_ok (impl_DeclsOk_ok hX n) (D17_ok hX n)
abbrev laws_big.a : List TS := [.c (.o (.dat 5 (.int .u8)))]
def laws_big.u (n : Nat) (v : VA laws_big.a) (K : RES → Prop) : Prop := laws_big.c n v.1 (fun r0 => K ⟨.c (.bool r0), []⟩)
theorem laws_big_ok : ∀ n v K, laws_big.u n v K → callM C X0 n 32 (fillA laws_big.a v) K :=
 call_tell hX (fn := Try.f32) (c := bodyOf Try.f32) (by kernel_rfl) (by kernel_rfl) (A := laws_big.a) (u := laws_big.u) (fun _ _ h => h) (call := D18) (lp := fun n => noL) (D18_ok hX) (fun n => noL_ok) (fun n v K => by kernel_rfl)
def D19 (n : Nat) : CallF := orC 32 laws_big.a (laws_big.u n) (D18 n)
theorem D19_ok : ∀ n g a K, D19 n g a K → callM C X0 n g a K := fun n => orC_ok (laws_big_ok hX n) (D18_ok hX n)
abbrev spec_l1Open.a : List TS := [.c (.o (.dat 5 (.int .u8)))]
def spec_l1Open.u (n : Nat) (v : VA spec_l1Open.a) (K : RES → Prop) : Prop := spec_l1Open.c n v.1 (fun r0 r1 => K ⟨.c (.boxr 210 [.dat 5 (.int .u8) r0, .int .i64 r1]), []⟩)
theorem spec_l1Open_ok : ∀ n v K, spec_l1Open.u n v K → callM C X0 n 99 (fillA spec_l1Open.a v) K :=
 call_tell hX (fn := Try.f99) (c := bodyOf Try.f99) (by kernel_rfl) (by kernel_rfl) (A := spec_l1Open.a) (u := spec_l1Open.u) (fun _ _ h => h) (call := D19) (lp := fun n => noL) (D19_ok hX) (fun n => noL_ok) (fun n v K => by kernel_rfl)
def D20 (n : Nat) : CallF := orC 99 spec_l1Open.a (spec_l1Open.u n) (D19 n)
theorem D20_ok : ∀ n g a K, D20 n g a K → callM C X0 n g a K := fun n => orC_ok (spec_l1Open_ok hX n) (D19_ok hX n)
abbrev spec_l1Rd_next.a : List TS := [.c (.boxr 210 [.dat 5 (.int .u8), .int .i64])]
def spec_l1Rd_next.u (n : Nat) (v : VA spec_l1Rd_next.a) (K : RES → Prop) : Prop := spec_l1Rd_next.c n v.1.1 v.1.2.1 (fun r0 r1 r2 => K ⟨.c (.int .i64 r0), [[.boxr 210 [.dat 5 (.int .u8) r1, .int .i64 r2]]]⟩)
theorem spec_l1Rd_next_ok : ∀ n v K, spec_l1Rd_next.u n v K → callM C X0 n 204 (fillA spec_l1Rd_next.a v) K :=
 call_tell hX (fn := Try.f204) (c := bodyOf Try.f204) (by kernel_rfl) (by kernel_rfl) (A := spec_l1Rd_next.a) (u := spec_l1Rd_next.u) (fun _ _ h => h) (call := D20) (lp := fun n => noL) (D20_ok hX) (fun n => noL_ok) (fun n v K => by kernel_rfl)
def D21 (n : Nat) : CallF := orC 204 spec_l1Rd_next.a (spec_l1Rd_next.u n) (D20 n)
theorem D21_ok : ∀ n g a K, D21 n g a K → callM C X0 n g a K := fun n => orC_ok (spec_l1Rd_next_ok hX n) (D20_ok hX n)
abbrev spec_l1Rd_below.a : List TS := [.c (.boxr 210 [.dat 5 (.int .u8), .int .i64]), .c (.o (.int .i64))]
def spec_l1Rd_below.u (n : Nat) (v : VA spec_l1Rd_below.a) (K : RES → Prop) : Prop := spec_l1Rd_below.c n v.1.1 v.1.2.1 v.2.1 (fun r0 r1 r2 => K ⟨.c (.int .i64 r0), [[.boxr 210 [.dat 5 (.int .u8) r1, .int .i64 r2]]]⟩)
theorem spec_l1Rd_below_ok : ∀ n v K, spec_l1Rd_below.u n v K → callM C X0 n 168 (fillA spec_l1Rd_below.a v) K :=
 call_tell hX (fn := Try.f168) (c := bodyOf Try.f168) (by kernel_rfl) (by kernel_rfl) (A := spec_l1Rd_below.a) (u := spec_l1Rd_below.u) (fun _ _ h => h) (call := D21) (lp := fun n => noL) (D21_ok hX) (fun n => noL_ok) (fun n v K => by kernel_rfl)
def D22 (n : Nat) : CallF := orC 168 spec_l1Rd_below.a (spec_l1Rd_below.u n) (D21 n)
theorem D22_ok : ∀ n g a K, D22 n g a K → callM C X0 n g a K := fun n => orC_ok (spec_l1Rd_below_ok hX n) (D21_ok hX n)
abbrev spec_l1Rd_once.a : List TS := [.c (.boxr 210 [.dat 5 (.int .u8), .int .i64]), .c (.o (.int .i64))]
def spec_l1Rd_once.u (n : Nat) (v : VA spec_l1Rd_once.a) (K : RES → Prop) : Prop := spec_l1Rd_once.c n v.1.1 v.1.2.1 v.2.1 (fun r0 r1 r2 => K ⟨.c (.bool r0), [[.boxr 210 [.dat 5 (.int .u8) r1, .int .i64 r2]]]⟩)
theorem spec_l1Rd_once_ok : ∀ n v K, spec_l1Rd_once.u n v K → callM C X0 n 101 (fillA spec_l1Rd_once.a v) K :=
 call_tell hX (fn := Try.f101) (c := bodyOf Try.f101) (by kernel_rfl) (by kernel_rfl) (A := spec_l1Rd_once.a) (u := spec_l1Rd_once.u) (fun _ _ h => h) (call := D22) (lp := fun n => noL) (D22_ok hX) (fun n => noL_ok) (fun n v K => by kernel_rfl)
def D23 (n : Nat) : CallF := orC 101 spec_l1Rd_once.a (spec_l1Rd_once.u n) (D22 n)
theorem D23_ok : ∀ n g a K, D23 n g a K → callM C X0 n g a K := fun n => orC_ok (spec_l1Rd_once_ok hX n) (D22_ok hX n)
abbrev spec_l1Rd_wide.a : List TS := [.c (.boxr 210 [.dat 5 (.int .u8), .int .i64])]
def spec_l1Rd_wide.u (n : Nat) (v : VA spec_l1Rd_wide.a) (K : RES → Prop) : Prop := spec_l1Rd_wide.c n v.1.1 v.1.2.1 (fun r0 r1 r2 => K ⟨.c (.int .i64 r0), [[.boxr 210 [.dat 5 (.int .u8) r1, .int .i64 r2]]]⟩)
theorem spec_l1Rd_wide_ok : ∀ n v K, spec_l1Rd_wide.u n v K → callM C X0 n 169 (fillA spec_l1Rd_wide.a v) K :=
 call_tell hX (fn := Try.f169) (c := bodyOf Try.f169) (by kernel_rfl) (by kernel_rfl) (A := spec_l1Rd_wide.a) (u := spec_l1Rd_wide.u) (fun _ _ h => h) (call := D23) (lp := fun n => noL) (D23_ok hX) (fun n => noL_ok) (fun n v K => by kernel_rfl)
def D24 (n : Nat) : CallF := orC 169 spec_l1Rd_wide.a (spec_l1Rd_wide.u n) (D23 n)
theorem D24_ok : ∀ n g a K, D24 n g a K → callM C X0 n g a K := fun n => orC_ok (spec_l1Rd_wide_ok hX n) (D23_ok hX n)
abbrev spec_l1Rd_decls.a : List TS := [.c (.boxr 210 [.dat 5 (.int .u8), .int .i64])]
def spec_l1Rd_decls.u (n : Nat) (v : VA spec_l1Rd_decls.a) (K : RES → Prop) : Prop := spec_l1Rd_decls.c n v.1.1 v.1.2.1 (fun r0 r1 r2 => K ⟨.c (.row ⟨167, .prod .str (.int .i64), r0, 99, none⟩), [[.boxr 210 [.dat 5 (.int .u8) r1, .int .i64 r2]]]⟩)
abbrev spec_l1Rd_decls.l3.s : ST := ⟨[(0, .c (.o (.pbox 0 0))), (3, .c (.o (.own 96))), (4, .c (.o (.int .i64)))], [⟨96, 167, .prod .str (.int .i64), 99⟩], [⟨0, 210, [.o (.dat 5 (.int .u8)), .o (.int .i64)], false⟩], [], [0]⟩
def spec_l1Rd_decls.l3.u (n : Nat) (v : spec_l1Rd_decls.l3.s.V) (K : X → St → Prop) : Prop := spec_l1Rd_decls.l3 n v.1.2.2.1 v.2.1.1 v.2.2.1.1 v.2.2.1.2.1 (fun y0 y1 y2 => K (.exit 0) ⟨[(3, .c (.own 96))], [(96, ⟨167, .prod .str (.int .i64), y0, 99, none⟩)], [(0, ⟨210, [.dat 5 (.int .u8) y1, .int .i64 y2], false⟩)], [], [0]⟩)
theorem spec_l1Rd_decls.l3_ok : ∀ n v K, spec_l1Rd_decls.l3.u n v K → loopM C X0 n 111 3 (spec_l1Rd_decls.l3.s.fill v) K :=
 loop_tell hX (fn := Try.f111) (c := bodyOf Try.f111) (a := loopOf Try.f111 3) (li := liOf (C.fi 111).loops 3) (by kernel_rfl) (by kernel_rfl) (of_decide_eq_true rfl) (by kernel_rfl) (by kernel_rfl) (T := spec_l1Rd_decls.l3.s) (u := spec_l1Rd_decls.l3.u) (fun _ _ h => h) (call := D24) (lp := fun n => noL) (D24_ok hX) (fun n => noL_ok) (fun n v K => by kernel_rfl)
theorem spec_l1Rd_decls_ok : ∀ n v K, spec_l1Rd_decls.u n v K → callM C X0 n 111 (fillA spec_l1Rd_decls.a v) K :=
 call_tell hX (fn := Try.f111) (c := bodyOf Try.f111) (by kernel_rfl) (by kernel_rfl) (A := spec_l1Rd_decls.a) (u := spec_l1Rd_decls.u) (fun _ _ h => h) (call := D24) (lp := fun n => orL 3 spec_l1Rd_decls.l3.s (spec_l1Rd_decls.l3.u n) noL) (D24_ok hX) (fun n => (orL_ok (spec_l1Rd_decls.l3_ok hX n) noL_ok)) (fun n v K => by kernel_rfl)
def D25 (n : Nat) : CallF := orC 111 spec_l1Rd_decls.a (spec_l1Rd_decls.u n) (D24 n)
theorem D25_ok : ∀ n g a K, D25 n g a K → callM C X0 n g a K := fun n => orC_ok (spec_l1Rd_decls_ok hX n) (D24_ok hX n)
abbrev spec_l1Rd_word.a : List TS := [.c (.boxr 210 [.dat 5 (.int .u8), .int .i64])]
def spec_l1Rd_word.u (n : Nat) (v : VA spec_l1Rd_word.a) (K : RES → Prop) : Prop := spec_l1Rd_word.c n v.1.1 v.1.2.1 (fun r0 r1 r2 => K ⟨.c (.int .u64 r0), [[.boxr 210 [.dat 5 (.int .u8) r1, .int .i64 r2]]]⟩)
abbrev spec_l1Rd_word.l3.s : ST := ⟨[(0, .c (.o (.pbox 0 0))), (3, .c (.o (.int .u64))), (4, .c (.o (.int .i64)))], [], [⟨0, 210, [.o (.dat 5 (.int .u8)), .o (.int .i64)], false⟩], [], [0]⟩
def spec_l1Rd_word.l3.u (n : Nat) (v : spec_l1Rd_word.l3.s.V) (K : X → St → Prop) : Prop := spec_l1Rd_word.l3 n v.1.2.1 v.1.2.2.1 v.2.2.1.1 v.2.2.1.2.1 (fun y0 y1 y2 => K (.exit 0) ⟨[(3, .c (.int .u64 y0))], [], [(0, ⟨210, [.dat 5 (.int .u8) y1, .int .i64 y2], false⟩)], [], [0]⟩)
theorem spec_l1Rd_word.l3_ok : ∀ n v K, spec_l1Rd_word.l3.u n v K → loopM C X0 n 179 3 (spec_l1Rd_word.l3.s.fill v) K :=
 loop_tell hX (fn := Try.f179) (c := bodyOf Try.f179) (a := loopOf Try.f179 3) (li := liOf (C.fi 179).loops 3) (by kernel_rfl) (by kernel_rfl) (of_decide_eq_true rfl) (by kernel_rfl) (by kernel_rfl) (T := spec_l1Rd_word.l3.s) (u := spec_l1Rd_word.l3.u) (fun _ _ h => h) (call := D25) (lp := fun n => noL) (D25_ok hX) (fun n => noL_ok) (fun n v K => by kernel_rfl)
theorem spec_l1Rd_word_ok : ∀ n v K, spec_l1Rd_word.u n v K → callM C X0 n 179 (fillA spec_l1Rd_word.a v) K :=
 call_tell hX (fn := Try.f179) (c := bodyOf Try.f179) (by kernel_rfl) (by kernel_rfl) (A := spec_l1Rd_word.a) (u := spec_l1Rd_word.u) (fun _ _ h => h) (call := D25) (lp := fun n => orL 3 spec_l1Rd_word.l3.s (spec_l1Rd_word.l3.u n) noL) (D25_ok hX) (fun n => (orL_ok (spec_l1Rd_word.l3_ok hX n) noL_ok)) (fun n v K => by kernel_rfl)
def D26 (n : Nat) : CallF := orC 179 spec_l1Rd_word.a (spec_l1Rd_word.u n) (D25 n)
theorem D26_ok : ∀ n g a K, D26 n g a K → callM C X0 n g a K := fun n => orC_ok (spec_l1Rd_word_ok hX n) (D25_ok hX n)
abbrev spec_l1Rd_near.a : List TS := [.c (.boxr 210 [.dat 5 (.int .u8), .int .i64]), .c (.o (.int .i64)), .c (.o (.int .i64))]
def spec_l1Rd_near.u (n : Nat) (v : VA spec_l1Rd_near.a) (K : RES → Prop) : Prop := spec_l1Rd_near.c n v.1.1 v.1.2.1 v.2.1 v.2.2.1 (fun r0 r1 r2 => K ⟨.c (.int .i64 r0), [[.boxr 210 [.dat 5 (.int .u8) r1, .int .i64 r2]]]⟩)
theorem spec_l1Rd_near_ok : ∀ n v K, spec_l1Rd_near.u n v K → callM C X0 n 171 (fillA spec_l1Rd_near.a v) K :=
 call_tell hX (fn := Try.f171) (c := bodyOf Try.f171) (by kernel_rfl) (by kernel_rfl) (A := spec_l1Rd_near.a) (u := spec_l1Rd_near.u) (fun _ _ h => h) (call := D26) (lp := fun n => noL) (D26_ok hX) (fun n => noL_ok) (fun n v K => by kernel_rfl)
def D27 (n : Nat) : CallF := orC 171 spec_l1Rd_near.a (spec_l1Rd_near.u n) (D26 n)
theorem D27_ok : ∀ n g a K, D27 n g a K → callM C X0 n g a K := fun n => orC_ok (spec_l1Rd_near_ok hX n) (D26_ok hX n)
abbrev spec_l1Rd_off.a : List TS := [.c (.boxr 210 [.dat 5 (.int .u8), .int .i64]), .c (.o (.int .i64)), .c (.o (.int .i64))]
def spec_l1Rd_off.u (n : Nat) (v : VA spec_l1Rd_off.a) (K : RES → Prop) : Prop := spec_l1Rd_off.c n v.1.1 v.1.2.1 v.2.1 v.2.2.1 (fun r0 r1 r2 => K ⟨.c (.int .i64 r0), [[.boxr 210 [.dat 5 (.int .u8) r1, .int .i64 r2]]]⟩)
theorem spec_l1Rd_off_ok : ∀ n v K, spec_l1Rd_off.u n v K → callM C X0 n 102 (fillA spec_l1Rd_off.a v) K :=
 call_tell hX (fn := Try.f102) (c := bodyOf Try.f102) (by kernel_rfl) (by kernel_rfl) (A := spec_l1Rd_off.a) (u := spec_l1Rd_off.u) (fun _ _ h => h) (call := D27) (lp := fun n => noL) (D27_ok hX) (fun n => noL_ok) (fun n v K => by kernel_rfl)
def D28 (n : Nat) : CallF := orC 102 spec_l1Rd_off.a (spec_l1Rd_off.u n) (D27 n)
theorem D28_ok : ∀ n g a K, D28 n g a K → callM C X0 n g a K := fun n => orC_ok (spec_l1Rd_off_ok hX n) (D27_ok hX n)
abbrev spec_l1From.a : List TS := [.c (.o (.dat 5 (.int .u8)))]
def spec_l1From.u (n : Nat) (v : VA spec_l1From.a) (K : RES → Prop) : Prop := spec_l1From.c n v.1 (fun r0 r1 r2 => K ⟨.tup [.agg [.int .i64 r0, .row ⟨155, .int .u64, r1, 99, none⟩], .c (.bool r2)], []⟩)
abbrev spec_l1From.l5.s : ST := ⟨[(0, .c (.o (.dat 5 (.int .u8)))), (2, .c (.o (.pbox 2 0))), (4, .c (.o (.pbox 4 0))), (5, .c (.o (.int .i64)))], [⟨672, 155, .int .u64, 99⟩, ⟨1000065, 155, .int .u64, 99⟩], [⟨2, 58, [.o (.int .i64), .o (.own 1000065)], false⟩, ⟨4, 58, [.o (.int .i64), .o (.own 672)], false⟩], [], []⟩
def spec_l1From.l5.u (n : Nat) (v : spec_l1From.l5.s.V) (K : X → St → Prop) : Prop := spec_l1From.l5 n v.1.1 v.2.1.2.1 v.2.2.1.1 v.2.2.2.1.1 v.1.2.2.2.1 v.2.1.1 (fun y0 y1 y2 y3 => K (.exit 0) ⟨[(2, .c (.pbox 2 0)), (4, .c (.pbox 4 0))], [(672, ⟨155, .int .u64, y0, 99, none⟩), (1000065, ⟨155, .int .u64, y1, 99, none⟩)], [(2, ⟨58, [.int .i64 y2, .own 1000065], false⟩), (4, ⟨58, [.int .i64 y3, .own 672], false⟩)], [], []⟩)
theorem spec_l1From.l5_ok : ∀ n v K, spec_l1From.l5.u n v K → loopM C X0 n 110 5 (spec_l1From.l5.s.fill v) K :=
 loop_tell hX (fn := Try.f110) (c := bodyOf Try.f110) (a := loopOf Try.f110 5) (li := liOf (C.fi 110).loops 5) (by kernel_rfl) (by kernel_rfl) (of_decide_eq_true rfl) (by kernel_rfl) (by kernel_rfl) (T := spec_l1From.l5.s) (u := spec_l1From.l5.u) (fun _ _ h => h) (call := D28) (lp := fun n => noL) (D28_ok hX) (fun n => noL_ok) (fun n v K => by kernel_rfl)
theorem spec_l1From_ok : ∀ n v K, spec_l1From.u n v K → callM C X0 n 110 (fillA spec_l1From.a v) K :=
 call_tell hX (fn := Try.f110) (c := bodyOf Try.f110) (by kernel_rfl) (by kernel_rfl) (A := spec_l1From.a) (u := spec_l1From.u) (fun _ _ h => h) (call := D28) (lp := fun n => orL 5 spec_l1From.l5.s (spec_l1From.l5.u n) noL) (D28_ok hX) (fun n => (orL_ok (spec_l1From.l5_ok hX n) noL_ok)) (fun n v K => by kernel_rfl)
def D29 (n : Nat) : CallF := orC 110 spec_l1From.a (spec_l1From.u n) (D28 n)
theorem D29_ok : ∀ n g a K, D29 n g a K → callM C X0 n g a K := fun n => orC_ok (spec_l1From_ok hX n) (D28_ok hX n)
abbrev spec_l1Rd_bits.a : List TS := [.c (.boxr 210 [.dat 5 (.int .u8), .int .i64]), .c (.o (.int .i64))]
def spec_l1Rd_bits.u (n : Nat) (v : VA spec_l1Rd_bits.a) (K : RES → Prop) : Prop := spec_l1Rd_bits.c n v.1.1 v.1.2.1 v.2.1 (fun r0 r1 r2 r3 => K ⟨.agg [.int .i64 r0, .row ⟨155, .int .u64, r1, 99, none⟩], [[.boxr 210 [.dat 5 (.int .u8) r2, .int .i64 r3]]]⟩)
abbrev spec_l1Rd_bits.l5.s : ST := ⟨[(1, .c (.o (.int .i64))), (4, .c (.o (.pbox 4 0))), (5, .c (.o (.own 160))), (6, .c (.o (.int .u64))), (7, .c (.o (.int .i64))), (8, .c (.o (.int .i64)))], [⟨160, 5, .int .u8, 99⟩, ⟨1000129, 155, .int .u64, 99⟩], [⟨0, 210, [.o (.dat 5 (.int .u8)), .o (.int .i64)], false⟩, ⟨4, 58, [.o (.int .i64), .o (.own 1000129)], false⟩], [], [0]⟩
def spec_l1Rd_bits.l5.u (n : Nat) (v : spec_l1Rd_bits.l5.s.V) (K : X → St → Prop) : Prop := spec_l1Rd_bits.l5 n v.1.1 v.1.2.2.2.1 v.1.2.2.2.2.1 v.2.1.2.1 v.2.2.1.1 v.2.2.1.2.1 v.2.2.2.1.1 v.1.2.2.2.2.2.1 v.2.1.1 (fun y0 y1 y2 y3 y4 => K (.exit 0) ⟨[(4, .c (.pbox 4 0)), (5, .c (.own 160))], [(160, ⟨5, .int .u8, y0, 99, none⟩), (1000129, ⟨155, .int .u64, y1, 99, none⟩)], [(0, ⟨210, [.dat 5 (.int .u8) y2, .int .i64 y3], false⟩), (4, ⟨58, [.int .i64 y4, .own 1000129], false⟩)], [], [0]⟩)
theorem spec_l1Rd_bits.l5_ok : ∀ n v K, spec_l1Rd_bits.l5.u n v K → loopM C X0 n 170 5 (spec_l1Rd_bits.l5.s.fill v) K :=
 loop_tell hX (fn := Try.f170) (c := bodyOf Try.f170) (a := loopOf Try.f170 5) (li := liOf (C.fi 170).loops 5) (by kernel_rfl) (by kernel_rfl) (of_decide_eq_true rfl) (by kernel_rfl) (by kernel_rfl) (T := spec_l1Rd_bits.l5.s) (u := spec_l1Rd_bits.l5.u) (fun _ _ h => h) (call := D29) (lp := fun n => noL) (D29_ok hX) (fun n => noL_ok) (fun n v K => by kernel_rfl)
theorem spec_l1Rd_bits_ok : ∀ n v K, spec_l1Rd_bits.u n v K → callM C X0 n 170 (fillA spec_l1Rd_bits.a v) K :=
 call_tell hX (fn := Try.f170) (c := bodyOf Try.f170) (by kernel_rfl) (by kernel_rfl) (A := spec_l1Rd_bits.a) (u := spec_l1Rd_bits.u) (fun _ _ h => h) (call := D29) (lp := fun n => orL 5 spec_l1Rd_bits.l5.s (spec_l1Rd_bits.l5.u n) noL) (D29_ok hX) (fun n => (orL_ok (spec_l1Rd_bits.l5_ok hX n) noL_ok)) (fun n v K => by kernel_rfl)
def D30 (n : Nat) : CallF := orC 170 spec_l1Rd_bits.a (spec_l1Rd_bits.u n) (D29 n)
theorem D30_ok : ∀ n g a K, D30 n g a K → callM C X0 n g a K := fun n => orC_ok (spec_l1Rd_bits_ok hX n) (D29_ok hX n)
abbrev spec_l1Rd_oddBits.a : List TS := [.c (.boxr 210 [.dat 5 (.int .u8), .int .i64])]
def spec_l1Rd_oddBits.u (n : Nat) (v : VA spec_l1Rd_oddBits.a) (K : RES → Prop) : Prop := spec_l1Rd_oddBits.c n v.1.1 v.1.2.1 (fun r0 r1 r2 r3 => K ⟨.agg [.int .i64 r0, .row ⟨155, .int .u64, r1, 99, none⟩], [[.boxr 210 [.dat 5 (.int .u8) r2, .int .i64 r3]]]⟩)
theorem spec_l1Rd_oddBits_ok : ∀ n v K, spec_l1Rd_oddBits.u n v K → callM C X0 n 180 (fillA spec_l1Rd_oddBits.a v) K :=
 call_tell hX (fn := Try.f180) (c := bodyOf Try.f180) (by kernel_rfl) (by kernel_rfl) (A := spec_l1Rd_oddBits.a) (u := spec_l1Rd_oddBits.u) (fun _ _ h => h) (call := D30) (lp := fun n => noL) (D30_ok hX) (fun n => noL_ok) (fun n v K => by kernel_rfl)
def D31 (n : Nat) : CallF := orC 180 spec_l1Rd_oddBits.a (spec_l1Rd_oddBits.u n) (D30 n)
theorem D31_ok : ∀ n g a K, D31 n g a K → callM C X0 n g a K := fun n => orC_ok (spec_l1Rd_oddBits_ok hX n) (D30_ok hX n)
abbrev spec_l1Rd_values.a : List TS := [.c (.boxr 210 [.dat 5 (.int .u8), .int .i64]), .c (.o (.dat 167 (.prod .str (.int .i64))))]
def spec_l1Rd_values.u (n : Nat) (v : VA spec_l1Rd_values.a) (K : RES → Prop) : Prop := spec_l1Rd_values.c n v.1.1 v.1.2.1 v.2.1 (fun r0 r1 r2 => K ⟨.c (.dat 58 (.prod (.int .i64) (.sl 155 (.int .u64))) r0), [[.boxr 210 [.dat 5 (.int .u8) r1, .int .i64 r2]]]⟩)
abbrev spec_l1Rd_values.l3.s : ST := ⟨[(0, .c (.o (.pbox 0 0))), (1, .c (.o (.dat 167 (.prod .str (.int .i64))))), (5, .c (.o (.own 160))), (6, .c (.o (.int .i64)))], [⟨160, 58, .prod (.int .i64) (.sl 155 (.int .u64)), 99⟩], [⟨0, 210, [.o (.dat 5 (.int .u8)), .o (.int .i64)], false⟩], [], [0]⟩
def spec_l1Rd_values.l3.u (n : Nat) (v : spec_l1Rd_values.l3.s.V) (K : X → St → Prop) : Prop := spec_l1Rd_values.l3 n v.1.2.1 v.1.2.2.2.1 v.2.1.1 v.2.2.1.1 v.2.2.1.2.1 (fun y0 y1 y2 => K (.exit 0) ⟨[(0, .c (.pbox 0 0)), (5, .c (.own 160))], [(160, ⟨58, .prod (.int .i64) (.sl 155 (.int .u64)), y0, 99, none⟩)], [(0, ⟨210, [.dat 5 (.int .u8) y1, .int .i64 y2], false⟩)], [], [0]⟩)
theorem spec_l1Rd_values.l3_ok : ∀ n v K, spec_l1Rd_values.l3.u n v K → loopM C X0 n 112 3 (spec_l1Rd_values.l3.s.fill v) K :=
 loop_tell hX (fn := Try.f112) (c := bodyOf Try.f112) (a := loopOf Try.f112 3) (li := liOf (C.fi 112).loops 3) (by kernel_rfl) (by kernel_rfl) (of_decide_eq_true rfl) (by kernel_rfl) (by kernel_rfl) (T := spec_l1Rd_values.l3.s) (u := spec_l1Rd_values.l3.u) (fun _ _ h => h) (call := D31) (lp := fun n => noL) (D31_ok hX) (fun n => noL_ok) (fun n v K => by kernel_rfl)
theorem spec_l1Rd_values_ok : ∀ n v K, spec_l1Rd_values.u n v K → callM C X0 n 112 (fillA spec_l1Rd_values.a v) K :=
 call_tell hX (fn := Try.f112) (c := bodyOf Try.f112) (by kernel_rfl) (by kernel_rfl) (A := spec_l1Rd_values.a) (u := spec_l1Rd_values.u) (fun _ _ h => h) (call := D31) (lp := fun n => orL 3 spec_l1Rd_values.l3.s (spec_l1Rd_values.l3.u n) noL) (D31_ok hX) (fun n => (orL_ok (spec_l1Rd_values.l3_ok hX n) noL_ok)) (fun n v K => by kernel_rfl)
def D32 (n : Nat) : CallF := orC 112 spec_l1Rd_values.a (spec_l1Rd_values.u n) (D31 n)
theorem D32_ok : ∀ n g a K, D32 n g a K → callM C X0 n g a K := fun n => orC_ok (spec_l1Rd_values_ok hX n) (D31_ok hX n)
abbrev spec_DrawMerge.a : List TS := [.c (.o (.dat 5 (.int .u8)))]
def spec_DrawMerge.u (n : Nat) (v : VA spec_DrawMerge.a) (K : RES → Prop) : Prop := spec_DrawMerge.c n v.1 (fun r0 r1 r2 r3 => K ⟨.tup [.c (.row ⟨167, .prod .str (.int .i64), r0, 0, none⟩), .c (.dat 58 (.prod (.int .i64) (.sl 155 (.int .u64))) r1), .c (.dat 58 (.prod (.int .i64) (.sl 155 (.int .u64))) r2), .c (.row ⟨2, .int .i64, r3, 99, none⟩)], []⟩)
abbrev spec_DrawMerge.l5.s : ST := ⟨[(6, .c (.o (.pbox 11 0))), (7, .c (.o (.own 416))), (8, .c (.o (.own 256))), (9, .c (.o (.int .i64)))], [⟨256, 2, .int .i64, 99⟩, ⟨416, 167, .prod .str (.int .i64), 99⟩], [⟨11, 210, [.o (.dat 5 (.int .u8)), .o (.int .i64)], false⟩], [], []⟩
def spec_DrawMerge.l5.u (n : Nat) (v : spec_DrawMerge.l5.s.V) (K : X → St → Prop) : Prop := spec_DrawMerge.l5 n v.2.1.2.1 v.1.2.2.2.1 v.2.1.1 v.2.2.1.1 v.2.2.1.2.1 (fun y0 y1 y2 y3 => K (.exit 0) ⟨[(6, .c (.pbox 11 0)), (7, .c (.own 416)), (8, .c (.own 256))], [(256, ⟨2, .int .i64, y0, 99, none⟩), (416, ⟨167, .prod .str (.int .i64), y1, 99, none⟩)], [(11, ⟨210, [.dat 5 (.int .u8) y2, .int .i64 y3], false⟩)], [], []⟩)
theorem spec_DrawMerge.l5_ok : ∀ n v K, spec_DrawMerge.l5.u n v K → loopM C X0 n 37 5 (spec_DrawMerge.l5.s.fill v) K :=
 loop_tell hX (fn := Try.f37) (c := bodyOf Try.f37) (a := loopOf Try.f37 5) (li := liOf (C.fi 37).loops 5) (by kernel_rfl) (by kernel_rfl) (of_decide_eq_true rfl) (by kernel_rfl) (by kernel_rfl) (T := spec_DrawMerge.l5.s) (u := spec_DrawMerge.l5.u) (fun _ _ h => h) (call := D32) (lp := fun n => noL) (D32_ok hX) (fun n => noL_ok) (fun n v K => by kernel_rfl)
theorem spec_DrawMerge_ok : ∀ n v K, spec_DrawMerge.u n v K → callM C X0 n 37 (fillA spec_DrawMerge.a v) K :=
 call_tell hX (fn := Try.f37) (c := bodyOf Try.f37) (by kernel_rfl) (by kernel_rfl) (A := spec_DrawMerge.a) (u := spec_DrawMerge.u) (fun _ _ h => h) (call := D32) (lp := fun n => orL 5 spec_DrawMerge.l5.s (spec_DrawMerge.l5.u n) noL) (D32_ok hX) (fun n => (orL_ok (spec_DrawMerge.l5_ok hX n) noL_ok)) (fun n v K => by kernel_rfl)
def D33 (n : Nat) : CallF := orC 37 spec_DrawMerge.a (spec_DrawMerge.u n) (D32 n)
theorem D33_ok : ∀ n g a K, D33 n g a K → callM C X0 n g a K := fun n => orC_ok (spec_DrawMerge_ok hX n) (D32_ok hX n)
abbrev spec_ValuesOk.a : List TS := [.c (.o (.dat 167 (.prod .str (.int .i64)))), .c (.o (.dat 58 (.prod (.int .i64) (.sl 155 (.int .u64)))))]
def spec_ValuesOk.u (n : Nat) (v : VA spec_ValuesOk.a) (K : RES → Prop) : Prop := spec_ValuesOk.c n v.1 v.2.1 (fun r0 => K ⟨.c (.bool r0), []⟩)
abbrev spec_ValuesOk.l4.s : ST := ⟨[(0, .c (.o (.dat 167 (.prod .str (.int .i64))))), (1, .c (.o (.dat 58 (.prod (.int .i64) (.sl 155 (.int .u64)))))), (5, .c (.o (.int .i64)))], [], [], [], []⟩
def spec_ValuesOk.l4.u (n : Nat) (v : spec_ValuesOk.l4.s.V) (K : X → St → Prop) : Prop := spec_ValuesOk.l4 n v.1.1 v.1.2.1 v.1.2.2.1 (K (.exit 0) ⟨[], [], [], [], []⟩) (fun y0 => K .ret ⟨[(4, .c (.bool y0))], [], [], [], []⟩)
theorem spec_ValuesOk.l4_ok : ∀ n v K, spec_ValuesOk.l4.u n v K → loopM C X0 n 113 4 (spec_ValuesOk.l4.s.fill v) K :=
 loop_tell hX (fn := Try.f113) (c := bodyOf Try.f113) (a := loopOf Try.f113 4) (li := liOf (C.fi 113).loops 4) (by kernel_rfl) (by kernel_rfl) (of_decide_eq_true rfl) (by kernel_rfl) (by kernel_rfl) (T := spec_ValuesOk.l4.s) (u := spec_ValuesOk.l4.u) (fun _ _ h => h) (call := D33) (lp := fun n => noL) (D33_ok hX) (fun n => noL_ok) (fun n v K => by kernel_rfl)
theorem spec_ValuesOk_ok : ∀ n v K, spec_ValuesOk.u n v K → callM C X0 n 113 (fillA spec_ValuesOk.a v) K :=
 call_tell hX (fn := Try.f113) (c := bodyOf Try.f113) (by kernel_rfl) (by kernel_rfl) (A := spec_ValuesOk.a) (u := spec_ValuesOk.u) (fun _ _ h => h) (call := D33) (lp := fun n => orL 4 spec_ValuesOk.l4.s (spec_ValuesOk.l4.u n) noL) (D33_ok hX) (fun n => (orL_ok (spec_ValuesOk.l4_ok hX n) noL_ok)) (fun n v K => by kernel_rfl)
def D34 (n : Nat) : CallF := orC 113 spec_ValuesOk.a (spec_ValuesOk.u n) (D33 n)
theorem D34_ok : ∀ n g a K, D34 n g a K → callM C X0 n g a K := fun n => orC_ok (spec_ValuesOk_ok hX n) (D33_ok hX n)
abbrev spec_Merge.a : List TS := [.c (.o (.dat 167 (.prod .str (.int .i64)))), .c (.o (.dat 58 (.prod (.int .i64) (.sl 155 (.int .u64))))), .c (.o (.dat 58 (.prod (.int .i64) (.sl 155 (.int .u64))))), .c (.o (.dat 2 (.int .i64)))]
def spec_Merge.u (n : Nat) (v : VA spec_Merge.a) (K : RES → Prop) : Prop := spec_Merge.c n v.1 v.2.1 v.2.2.1 v.2.2.2.1 (fun r0 r1 => K ⟨.tup [.c (.row ⟨58, .prod (.int .i64) (.sl 155 (.int .u64)), r0, 99, none⟩), .c (.bool r1)], []⟩)
abbrev spec_Merge.l5.s : ST := ⟨[(0, .c (.o (.dat 167 (.prod .str (.int .i64))))), (1, .c (.o (.dat 58 (.prod (.int .i64) (.sl 155 (.int .u64)))))), (2, .c (.o (.dat 58 (.prod (.int .i64) (.sl 155 (.int .u64)))))), (3, .c (.o (.dat 2 (.int .i64)))), (10, .c (.o (.own 448))), (11, .c (.o (.int .i64)))], [⟨448, 58, .prod (.int .i64) (.sl 155 (.int .u64)), 99⟩], [], [], []⟩
def spec_Merge.l5.u (n : Nat) (v : spec_Merge.l5.s.V) (K : X → St → Prop) : Prop := spec_Merge.l5 n v.1.1 v.1.2.1 v.1.2.2.1 v.1.2.2.2.1 v.2.1.1 v.1.2.2.2.2.2.1 (fun y0 y1 y2 y3 y4 => K (.exit 0) ⟨[(0, .c (.dat 167 (.prod .str (.int .i64)) y0)), (1, .c (.dat 58 (.prod (.int .i64) (.sl 155 (.int .u64))) y1)), (2, .c (.dat 58 (.prod (.int .i64) (.sl 155 (.int .u64))) y2)), (3, .c (.dat 2 (.int .i64) y3)), (10, .c (.own 448))], [(448, ⟨58, .prod (.int .i64) (.sl 155 (.int .u64)), y4, 99, none⟩)], [], [], []⟩) (fun y0 y1 => K .ret ⟨[(8, .c (.own 448)), (9, .c (.bool y0))], [(448, ⟨58, .prod (.int .i64) (.sl 155 (.int .u64)), y1, 99, none⟩)], [], [], []⟩)
abbrev spec_Merge.l10.s : ST := ⟨[(0, .c (.o (.dat 167 (.prod .str (.int .i64))))), (1, .c (.o (.dat 58 (.prod (.int .i64) (.sl 155 (.int .u64)))))), (2, .c (.o (.dat 58 (.prod (.int .i64) (.sl 155 (.int .u64)))))), (3, .c (.o (.dat 2 (.int .i64)))), (10, .c (.o (.own 320))), (12, .c (.o (.int .i64)))], [⟨320, 58, .prod (.int .i64) (.sl 155 (.int .u64)), 99⟩], [], [], []⟩
def spec_Merge.l10.u (n : Nat) (v : spec_Merge.l10.s.V) (K : X → St → Prop) : Prop := spec_Merge.l10 n v.1.1 v.1.2.1 v.1.2.2.1 v.1.2.2.2.1 v.1.2.2.2.2.2.1 v.2.1.1 (fun y0 => K (.exit 2) ⟨[(10, .c (.own 320))], [(320, ⟨58, .prod (.int .i64) (.sl 155 (.int .u64)), y0, 99, none⟩)], [], [], []⟩)
theorem spec_Merge.l5_ok : ∀ n v K, spec_Merge.l5.u n v K → loopM C X0 n 38 5 (spec_Merge.l5.s.fill v) K :=
 loop_tell hX (fn := Try.f38) (c := bodyOf Try.f38) (a := loopOf Try.f38 5) (li := liOf (C.fi 38).loops 5) (by kernel_rfl) (by kernel_rfl) (of_decide_eq_true rfl) (by kernel_rfl) (by kernel_rfl) (T := spec_Merge.l5.s) (u := spec_Merge.l5.u) (fun _ _ h => h) (call := D34) (lp := fun n => noL) (D34_ok hX) (fun n => noL_ok) (fun n v K => by kernel_rfl)
theorem spec_Merge.l10_ok : ∀ n v K, spec_Merge.l10.u n v K → loopM C X0 n 38 10 (spec_Merge.l10.s.fill v) K :=
 loop_tell hX (fn := Try.f38) (c := bodyOf Try.f38) (a := loopOf Try.f38 10) (li := liOf (C.fi 38).loops 10) (by kernel_rfl) (by kernel_rfl) (of_decide_eq_true rfl) (by kernel_rfl) (by kernel_rfl) (T := spec_Merge.l10.s) (u := spec_Merge.l10.u) (fun _ _ h => h) (call := D34) (lp := fun n => noL) (D34_ok hX) (fun n => noL_ok) (fun n v K => by kernel_rfl)
theorem spec_Merge_ok : ∀ n v K, spec_Merge.u n v K → callM C X0 n 38 (fillA spec_Merge.a v) K :=
 call_tell hX (fn := Try.f38) (c := bodyOf Try.f38) (by kernel_rfl) (by kernel_rfl) (A := spec_Merge.a) (u := spec_Merge.u) (fun _ _ h => h) (call := D34) (lp := fun n => orL 5 spec_Merge.l5.s (spec_Merge.l5.u n) (orL 10 spec_Merge.l10.s (spec_Merge.l10.u n) noL)) (D34_ok hX) (fun n => (orL_ok (spec_Merge.l5_ok hX n) (orL_ok (spec_Merge.l10_ok hX n) noL_ok))) (fun n v K => by kernel_rfl)
def D35 (n : Nat) : CallF := orC 38 spec_Merge.a (spec_Merge.u n) (D34 n)
theorem D35_ok : ∀ n g a K, D35 n g a K → callM C X0 n g a K := fun n => orC_ok (spec_Merge_ok hX n) (D34_ok hX n)
abbrev impl_valuesOk.a : List TS := [.c (.o (.dat 167 (.prod .str (.int .i64)))), .c (.o (.dat 58 (.prod (.int .i64) (.sl 155 (.int .u64)))))]
def impl_valuesOk.u (n : Nat) (v : VA impl_valuesOk.a) (K : RES → Prop) : Prop := impl_valuesOk.c n v.1 v.2.1 (fun r0 => K ⟨.c (.bool r0), []⟩)
abbrev impl_valuesOk.l4.s : ST := ⟨[(0, .c (.o (.dat 167 (.prod .str (.int .i64))))), (12, .c (.o (.dat 58 (.prod (.int .i64) (.sl 155 (.int .u64)))))), (13, .c (.o (.int .i64))), (14, .c (.o (.int .i64)))], [], [], [], []⟩
def impl_valuesOk.l4.u (n : Nat) (v : impl_valuesOk.l4.s.V) (K : X → St → Prop) : Prop := impl_valuesOk.l4 n v.1.1 v.1.2.1 v.1.2.2.1 v.1.2.2.2.1 (K (.exit 0) ⟨[], [], [], [], []⟩) (fun y0 => K .ret ⟨[(4, .c (.bool y0))], [], [], [], []⟩)
theorem impl_valuesOk.l4_ok : ∀ n v K, impl_valuesOk.l4.u n v K → loopM C X0 n 117 4 (impl_valuesOk.l4.s.fill v) K :=
 loop_tell hX (fn := Try.f117) (c := bodyOf Try.f117) (a := loopOf Try.f117 4) (li := liOf (C.fi 117).loops 4) (by kernel_rfl) (by kernel_rfl) (of_decide_eq_true rfl) (by kernel_rfl) (by kernel_rfl) (T := impl_valuesOk.l4.s) (u := impl_valuesOk.l4.u) (fun _ _ h => h) (call := D35) (lp := fun n => noL) (D35_ok hX) (fun n => noL_ok) (fun n v K => by kernel_rfl)
theorem impl_valuesOk_ok : ∀ n v K, impl_valuesOk.u n v K → callM C X0 n 117 (fillA impl_valuesOk.a v) K :=
 call_tell hX (fn := Try.f117) (c := bodyOf Try.f117) (by kernel_rfl) (by kernel_rfl) (A := impl_valuesOk.a) (u := impl_valuesOk.u) (fun _ _ h => h) (call := D35) (lp := fun n => orL 4 impl_valuesOk.l4.s (impl_valuesOk.l4.u n) noL) (D35_ok hX) (fun n => (orL_ok (impl_valuesOk.l4_ok hX n) noL_ok)) (fun n v K => by kernel_rfl)
def D36 (n : Nat) : CallF := orC 117 impl_valuesOk.a (impl_valuesOk.u n) (D35 n)
theorem D36_ok : ∀ n g a K, D36 n g a K → callM C X0 n g a K := fun n => orC_ok (impl_valuesOk_ok hX n) (D35_ok hX n)
abbrev impl_ValuesOk.a : List TS := [.c (.o (.dat 167 (.prod .str (.int .i64)))), .c (.o (.dat 58 (.prod (.int .i64) (.sl 155 (.int .u64)))))]
def impl_ValuesOk.u (n : Nat) (v : VA impl_ValuesOk.a) (K : RES → Prop) : Prop := impl_ValuesOk.c n v.1 v.2.1 (fun r0 => K ⟨.c (.bool r0), []⟩)
theorem impl_ValuesOk_ok : ∀ n v K, impl_ValuesOk.u n v K → callM C X0 n 116 (fillA impl_ValuesOk.a v) K :=
 call_tell hX (fn := Try.f116) (c := bodyOf Try.f116) (by kernel_rfl) (by kernel_rfl) (A := impl_ValuesOk.a) (u := impl_ValuesOk.u) (fun _ _ h => h) (call := D36) (lp := fun n => noL) (D36_ok hX) (fun n => noL_ok) (fun n v K => by kernel_rfl)
def D37 (n : Nat) : CallF := orC 116 impl_ValuesOk.a (impl_ValuesOk.u n) (D36 n)
theorem D37_ok : ∀ n g a K, D37 n g a K → callM C X0 n g a K := fun n => orC_ok (impl_ValuesOk_ok hX n) (D36_ok hX n)
abbrev impl_Merge.a : List TS := [.c (.o (.dat 167 (.prod .str (.int .i64)))), .c (.o (.dat 58 (.prod (.int .i64) (.sl 155 (.int .u64))))), .c (.o (.dat 58 (.prod (.int .i64) (.sl 155 (.int .u64))))), .c (.o (.dat 2 (.int .i64)))]
def impl_Merge.u (n : Nat) (v : VA impl_Merge.a) (K : RES → Prop) : Prop := impl_Merge.c n v.1 v.2.1 v.2.2.1 v.2.2.2.1 (fun r0 r1 => K ⟨.tup [.c (.row ⟨58, .prod (.int .i64) (.sl 155 (.int .u64)), r0, 99, none⟩), .c (.bool r1)], []⟩)
abbrev impl_Merge.l5.s : ST := ⟨[(0, .c (.o (.dat 167 (.prod .str (.int .i64))))), (2, .c (.o (.dat 58 (.prod (.int .i64) (.sl 155 (.int .u64)))))), (3, .c (.o (.dat 2 (.int .i64)))), (10, .c (.o (.own 896))), (29, .c (.o (.dat 58 (.prod (.int .i64) (.sl 155 (.int .u64)))))), (30, .c (.o (.int .i64))), (31, .c (.o (.int .i64)))], [⟨896, 58, .prod (.int .i64) (.sl 155 (.int .u64)), 99⟩], [], [], []⟩
def impl_Merge.l5.u (n : Nat) (v : impl_Merge.l5.s.V) (K : X → St → Prop) : Prop := impl_Merge.l5 n v.1.1 v.1.2.1 v.1.2.2.1 v.1.2.2.2.2.1 v.1.2.2.2.2.2.1 v.1.2.2.2.2.2.2.1 v.2.1.1 (fun y0 y1 y2 y3 => K (.exit 0) ⟨[(0, .c (.dat 167 (.prod .str (.int .i64)) y0)), (2, .c (.dat 58 (.prod (.int .i64) (.sl 155 (.int .u64))) y1)), (3, .c (.dat 2 (.int .i64) y2)), (10, .c (.own 896))], [(896, ⟨58, .prod (.int .i64) (.sl 155 (.int .u64)), y3, 99, none⟩)], [], [], []⟩)
abbrev impl_Merge.l11.s : ST := ⟨[(0, .c (.o (.dat 167 (.prod .str (.int .i64))))), (2, .c (.o (.dat 58 (.prod (.int .i64) (.sl 155 (.int .u64)))))), (10, .c (.o (.own 896))), (13, .c (.o (.int .i64))), (42, .c (.o (.dat 2 (.int .i64)))), (43, .c (.o (.int .i64))), (44, .c (.o (.int .i64)))], [⟨896, 58, .prod (.int .i64) (.sl 155 (.int .u64)), 99⟩], [], [], []⟩
def impl_Merge.l11.u (n : Nat) (v : impl_Merge.l11.s.V) (K : X → St → Prop) : Prop := impl_Merge.l11 n v.1.1 v.1.2.1 v.1.2.2.2.2.1 v.1.2.2.2.2.2.1 v.1.2.2.2.1 v.1.2.2.2.2.2.2.1 v.2.1.1 (fun y0 => K (.exit 2) ⟨[(10, .c (.own 896))], [(896, ⟨58, .prod (.int .i64) (.sl 155 (.int .u64)), y0, 99, none⟩)], [], [], []⟩) (fun y0 y1 => K .ret ⟨[(8, .c (.own 256)), (9, .c (.bool y0))], [(256, ⟨58, .prod (.int .i64) (.sl 155 (.int .u64)), y1, 99, none⟩)], [], [], []⟩)
theorem impl_Merge.l5_ok : ∀ n v K, impl_Merge.l5.u n v K → loopM C X0 n 39 5 (impl_Merge.l5.s.fill v) K :=
 loop_tell hX (fn := Try.f39) (c := bodyOf Try.f39) (a := loopOf Try.f39 5) (li := liOf (C.fi 39).loops 5) (by kernel_rfl) (by kernel_rfl) (of_decide_eq_true rfl) (by kernel_rfl) (by kernel_rfl) (T := impl_Merge.l5.s) (u := impl_Merge.l5.u) (fun _ _ h => h) (call := D37) (lp := fun n => noL) (D37_ok hX) (fun n => noL_ok) (fun n v K => by kernel_rfl)
theorem impl_Merge.l11_ok : ∀ n v K, impl_Merge.l11.u n v K → loopM C X0 n 39 11 (impl_Merge.l11.s.fill v) K :=
 loop_tell hX (fn := Try.f39) (c := bodyOf Try.f39) (a := loopOf Try.f39 11) (li := liOf (C.fi 39).loops 11) (by kernel_rfl) (by kernel_rfl) (of_decide_eq_true rfl) (by kernel_rfl) (by kernel_rfl) (T := impl_Merge.l11.s) (u := impl_Merge.l11.u) (fun _ _ h => h) (call := D37) (lp := fun n => noL) (D37_ok hX) (fun n => noL_ok) (fun n v K => by kernel_rfl)
theorem impl_Merge_ok : ∀ n v K, impl_Merge.u n v K → callM C X0 n 39 (fillA impl_Merge.a v) K :=
 call_tell hX (fn := Try.f39) (c := bodyOf Try.f39) (by kernel_rfl) (by kernel_rfl) (A := impl_Merge.a) (u := impl_Merge.u) (fun _ _ h => h) (call := D37) (lp := fun n => orL 5 impl_Merge.l5.s (impl_Merge.l5.u n) (orL 11 impl_Merge.l11.s (impl_Merge.l11.u n) noL)) (D37_ok hX) (fun n => (orL_ok (impl_Merge.l5_ok hX n) (orL_ok (impl_Merge.l11_ok hX n) noL_ok))) (fun n v K => by kernel_rfl)
def D38 (n : Nat) : CallF := orC 39 impl_Merge.a (impl_Merge.u n) (D37 n)
theorem D38_ok : ∀ n g a K, D38 n g a K → callM C X0 n g a K := fun n => orC_ok (impl_Merge_ok hX n) (D37_ok hX n)
abbrev laws_has.a : List TS := [.c (.o (.dat 2 (.int .i64))), .c (.o (.int .i64))]
def laws_has.u (n : Nat) (v : VA laws_has.a) (K : RES → Prop) : Prop := laws_has.c n v.1 v.2.1 (fun r0 => K ⟨.c (.bool r0), []⟩)
abbrev laws_has.l2.s : ST := ⟨[(0, .c (.o (.dat 2 (.int .i64)))), (1, .c (.o (.int .i64))), (5, .c (.o (.int .i64)))], [], [], [], []⟩
def laws_has.l2.u (n : Nat) (v : laws_has.l2.s.V) (K : X → St → Prop) : Prop := laws_has.l2 n v.1.1 v.1.2.1 v.1.2.2.1 (K (.exit 0) ⟨[], [], [], [], []⟩) (fun y0 => K .ret ⟨[(4, .c (.bool y0))], [], [], [], []⟩)
theorem laws_has.l2_ok : ∀ n v K, laws_has.l2.u n v K → loopM C X0 n 40 2 (laws_has.l2.s.fill v) K :=
 loop_tell hX (fn := Try.f40) (c := bodyOf Try.f40) (a := loopOf Try.f40 2) (li := liOf (C.fi 40).loops 2) (by kernel_rfl) (by kernel_rfl) (of_decide_eq_true rfl) (by kernel_rfl) (by kernel_rfl) (T := laws_has.l2.s) (u := laws_has.l2.u) (fun _ _ h => h) (call := D38) (lp := fun n => noL) (D38_ok hX) (fun n => noL_ok) (fun n v K => by kernel_rfl)
theorem laws_has_ok : ∀ n v K, laws_has.u n v K → callM C X0 n 40 (fillA laws_has.a v) K :=
 call_tell hX (fn := Try.f40) (c := bodyOf Try.f40) (by kernel_rfl) (by kernel_rfl) (A := laws_has.a) (u := laws_has.u) (fun _ _ h => h) (call := D38) (lp := fun n => orL 2 laws_has.l2.s (laws_has.l2.u n) noL) (D38_ok hX) (fun n => (orL_ok (laws_has.l2_ok hX n) noL_ok)) (fun n v K => by kernel_rfl)
def D39 (n : Nat) : CallF := orC 40 laws_has.a (laws_has.u n) (D38 n)
theorem D39_ok : ∀ n g a K, D39 n g a K → callM C X0 n g a K := fun n => orC_ok (laws_has_ok hX n) (D38_ok hX n)
abbrev laws_sameBits.a : List TS := [.a [.o (.int .i64), .o (.dat 155 (.int .u64))], .a [.o (.int .i64), .o (.dat 155 (.int .u64))]]
def laws_sameBits.u (n : Nat) (v : VA laws_sameBits.a) (K : RES → Prop) : Prop := laws_sameBits.c n v.1.1 v.1.2.1 v.2.1.1 v.2.1.2.1 (fun r0 => K ⟨.c (.bool r0), []⟩)
abbrev laws_sameBits.l4.s : ST := ⟨[(2, .c (.o (.pbox 2 0))), (3, .c (.o (.pbox 3 0))), (5, .c (.o (.int .i64)))], [], [⟨2, 58, [.o (.int .i64), .o (.dat 155 (.int .u64))], false⟩, ⟨3, 58, [.o (.int .i64), .o (.dat 155 (.int .u64))], false⟩], [], []⟩
def laws_sameBits.l4.u (n : Nat) (v : laws_sameBits.l4.s.V) (K : X → St → Prop) : Prop := laws_sameBits.l4 n v.2.2.1.1 v.2.2.1.2.1 v.2.2.2.1.1 v.2.2.2.1.2.1 v.1.2.2.1 (K (.exit 0) ⟨[], [], [], [], []⟩) (fun y0 => K .ret ⟨[(4, .c (.bool y0))], [], [], [], []⟩)
theorem laws_sameBits.l4_ok : ∀ n v K, laws_sameBits.l4.u n v K → loopM C X0 n 41 4 (laws_sameBits.l4.s.fill v) K :=
 loop_tell hX (fn := Try.f41) (c := bodyOf Try.f41) (a := loopOf Try.f41 4) (li := liOf (C.fi 41).loops 4) (by kernel_rfl) (by kernel_rfl) (of_decide_eq_true rfl) (by kernel_rfl) (by kernel_rfl) (T := laws_sameBits.l4.s) (u := laws_sameBits.l4.u) (fun _ _ h => h) (call := D39) (lp := fun n => noL) (D39_ok hX) (fun n => noL_ok) (fun n v K => by kernel_rfl)
theorem laws_sameBits_ok : ∀ n v K, laws_sameBits.u n v K → callM C X0 n 41 (fillA laws_sameBits.a v) K :=
 call_tell hX (fn := Try.f41) (c := bodyOf Try.f41) (by kernel_rfl) (by kernel_rfl) (A := laws_sameBits.a) (u := laws_sameBits.u) (fun _ _ h => h) (call := D39) (lp := fun n => orL 4 laws_sameBits.l4.s (laws_sameBits.l4.u n) noL) (D39_ok hX) (fun n => (orL_ok (laws_sameBits.l4_ok hX n) noL_ok)) (fun n v K => by kernel_rfl)
def D40 (n : Nat) : CallF := orC 41 laws_sameBits.a (laws_sameBits.u n) (D39 n)
theorem D40_ok : ∀ n g a K, D40 n g a K → callM C X0 n g a K := fun n => orC_ok (laws_sameBits_ok hX n) (D39_ok hX n)
abbrev laws_sameValues.a : List TS := [.c (.o (.dat 58 (.prod (.int .i64) (.sl 155 (.int .u64))))), .c (.o (.dat 58 (.prod (.int .i64) (.sl 155 (.int .u64)))))]
def laws_sameValues.u (n : Nat) (v : VA laws_sameValues.a) (K : RES → Prop) : Prop := laws_sameValues.c n v.1 v.2.1 (fun r0 => K ⟨.c (.bool r0), []⟩)
abbrev laws_sameValues.l4.s : ST := ⟨[(0, .c (.o (.dat 58 (.prod (.int .i64) (.sl 155 (.int .u64)))))), (1, .c (.o (.dat 58 (.prod (.int .i64) (.sl 155 (.int .u64)))))), (5, .c (.o (.int .i64)))], [], [], [], []⟩
def laws_sameValues.l4.u (n : Nat) (v : laws_sameValues.l4.s.V) (K : X → St → Prop) : Prop := laws_sameValues.l4 n v.1.1 v.1.2.1 v.1.2.2.1 (K (.exit 0) ⟨[], [], [], [], []⟩) (fun y0 => K .ret ⟨[(4, .c (.bool y0))], [], [], [], []⟩)
theorem laws_sameValues.l4_ok : ∀ n v K, laws_sameValues.l4.u n v K → loopM C X0 n 42 4 (laws_sameValues.l4.s.fill v) K :=
 loop_tell hX (fn := Try.f42) (c := bodyOf Try.f42) (a := loopOf Try.f42 4) (li := liOf (C.fi 42).loops 4) (by kernel_rfl) (by kernel_rfl) (of_decide_eq_true rfl) (by kernel_rfl) (by kernel_rfl) (T := laws_sameValues.l4.s) (u := laws_sameValues.l4.u) (fun _ _ h => h) (call := D40) (lp := fun n => noL) (D40_ok hX) (fun n => noL_ok) (fun n v K => by kernel_rfl)
theorem laws_sameValues_ok : ∀ n v K, laws_sameValues.u n v K → callM C X0 n 42 (fillA laws_sameValues.a v) K :=
 call_tell hX (fn := Try.f42) (c := bodyOf Try.f42) (by kernel_rfl) (by kernel_rfl) (A := laws_sameValues.a) (u := laws_sameValues.u) (fun _ _ h => h) (call := D40) (lp := fun n => orL 4 laws_sameValues.l4.s (laws_sameValues.l4.u n) noL) (D40_ok hX) (fun n => (orL_ok (laws_sameValues.l4_ok hX n) noL_ok)) (fun n v K => by kernel_rfl)
def D41 (n : Nat) : CallF := orC 42 laws_sameValues.a (laws_sameValues.u n) (D40 n)
theorem D41_ok : ∀ n g a K, D41 n g a K → callM C X0 n g a K := fun n => orC_ok (laws_sameValues_ok hX n) (D40_ok hX n)
abbrev laws_FnMerged.a : List TS := [.c (.o (.dat 5 (.int .u8)))]
def laws_FnMerged.u (n : Nat) (v : VA laws_FnMerged.a) (K : RES → Prop) : Prop := laws_FnMerged.c n v.1 (fun r0 => K ⟨.c (.bool r0), []⟩)
abbrev laws_FnMerged.l11.s : ST := ⟨[(3, .c (.o (.own 608))), (4, .c (.o (.dat 58 (.prod (.int .i64) (.sl 155 (.int .u64)))))), (5, .c (.o (.dat 58 (.prod (.int .i64) (.sl 155 (.int .u64)))))), (6, .c (.o (.own 611))), (9, .c (.o (.own 1184))), (11, .c (.o (.int .i64)))], [⟨608, 167, .prod .str (.int .i64), 0⟩, ⟨611, 2, .int .i64, 99⟩, ⟨1184, 58, .prod (.int .i64) (.sl 155 (.int .u64)), 99⟩], [], [], []⟩
def laws_FnMerged.l11.u (n : Nat) (v : laws_FnMerged.l11.s.V) (K : X → St → Prop) : Prop := laws_FnMerged.l11 n v.1.2.1 v.1.2.2.1 v.2.1.1 v.2.1.2.1 v.2.1.2.2.1 v.1.2.2.2.2.2.1 (fun y0 y1 y2 y3 => K (.exit 0) ⟨[(3, .c (.own 608)), (4, .c (.dat 58 (.prod (.int .i64) (.sl 155 (.int .u64))) y0)), (5, .c (.dat 58 (.prod (.int .i64) (.sl 155 (.int .u64))) y1)), (9, .c (.own 1184))], [(608, ⟨167, .prod .str (.int .i64), y2, 0, none⟩), (1184, ⟨58, .prod (.int .i64) (.sl 155 (.int .u64)), y3, 99, none⟩)], [], [], []⟩) (fun y0 => K .ret ⟨[(2, .c (.bool y0))], [], [], [], []⟩)
theorem laws_FnMerged.l11_ok : ∀ n v K, laws_FnMerged.l11.u n v K → loopM C X0 n 6 11 (laws_FnMerged.l11.s.fill v) K :=
 loop_tell hX (fn := Try.f6) (c := bodyOf Try.f6) (a := loopOf Try.f6 11) (li := liOf (C.fi 6).loops 11) (by kernel_rfl) (by kernel_rfl) (of_decide_eq_true rfl) (by kernel_rfl) (by kernel_rfl) (T := laws_FnMerged.l11.s) (u := laws_FnMerged.l11.u) (fun _ _ h => h) (call := D41) (lp := fun n => noL) (D41_ok hX) (fun n => noL_ok) (fun n v K => by kernel_rfl)
theorem laws_FnMerged_ok : ∀ n v K, laws_FnMerged.u n v K → callM C X0 n 6 (fillA laws_FnMerged.a v) K :=
 call_tell hX (fn := Try.f6) (c := bodyOf Try.f6) (by kernel_rfl) (by kernel_rfl) (A := laws_FnMerged.a) (u := laws_FnMerged.u) (fun _ _ h => h) (call := D41) (lp := fun n => orL 11 laws_FnMerged.l11.s (laws_FnMerged.l11.u n) noL) (D41_ok hX) (fun n => (orL_ok (laws_FnMerged.l11_ok hX n) noL_ok)) (fun n v K => by kernel_rfl)
def D42 (n : Nat) : CallF := orC 6 laws_FnMerged.a (laws_FnMerged.u n) (D41 n)
theorem D42_ok : ∀ n g a K, D42 n g a K → callM C X0 n g a K := fun n => orC_ok (laws_FnMerged_ok hX n) (D41_ok hX n)
end
end Go.Vsi
end
