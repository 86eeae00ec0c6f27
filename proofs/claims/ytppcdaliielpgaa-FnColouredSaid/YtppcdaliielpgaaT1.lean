/- Each told function is what the machine comes to. No statement is proved here. -/
import Derived.Test.YtppcdaliielpgaaM3
import Derived.Test.YtppcdaliielpgaaA1
import Derived.Test.YtppcdaliielpgaaProg
import Derived.KernelRfl

section
set_option linter.unusedVariables false
namespace Go.Vsi
abbrev Y21 : Ty := .prod .str (.int .i64)
abbrev Y20 : Ty := .prod (.sl 5 (.int .u8)) (.int .i64)
abbrev Y19 : Ty := .prod (.int .i64) (.sl 155 (.int .u64))
abbrev Y18 : Ty := .prod (.int .i64) Y19
abbrev Y17 : Ty := .prod (.int .i64) (.prod (.int .i64) (.prod .bool (.int .u8)))
abbrev Y16 : Ty := .prod (.sl 2 (.int .i64)) (.sl 58 Y19)
abbrev Y15 : Ty := .prod (.int .i64) Y18
abbrev Y14 : Ty := .prod (.int .i64) Y15
abbrev Y13 : Ty := .prod (.sl 2 (.int .i64)) (.sl 123 Y15)
abbrev Y12 : Ty := .prod (.sl 2 (.int .i64)) (.sl 201 Y15)
abbrev Y11 : Ty := .prod (.int .i64) (.prod (.int .i64) (.sl 123 Y15))
abbrev Y10 : Ty := .prod (.int .i64) (.prod (.int .i64) (.sl 201 Y15))
abbrev Y9 : Ty := .prod (.int .i64) (.prod (.int .i64) (.prod (.int .i64) (.prod (.int .i64) (.prod (.int .i64) (.prod (.sl 155 (.int .u64)) (.sl 2 (.int .i64)))))))
abbrev Y8 : Ty := .prod (.sl 2 (.int .i64)) (.prod (.sl 123 Y15) (.prod (.sl 58 Y19) (.prod (.sl 2 (.int .i64)) (.prod (.int .i64) (.prod (.int .i64) .bool)))))
abbrev Y7 : Ty := .prod (.sl 2 (.int .i64)) (.prod (.sl 123 Y15) (.prod (.sl 157 Y16) (.prod (.sl 2 (.int .i64)) (.prod (.sl 58 Y19) (.prod (.int .i64) (.int .i64))))))
abbrev Y6 : Ty := .prod (.int .i64) (.prod .bool (.prod (.sl 174 Y9) (.sl 174 Y9)))
abbrev Y5 : Ty := .prod (.int .i64) (.prod .bool (.prod (.sl 226 Y9) (.sl 226 Y9)))
abbrev Y4 : Ty := .prod (.int .i64) (.sl 179 Y6)
abbrev Y3 : Ty := .prod (.int .i64) (.sl 177 Y5)
abbrev Y2 : Ty := .prod (.sl 167 Y21) (.prod (.sl 194 Y4) (.int .i64))
abbrev Y1 : Ty := .prod (.sl 164 Y21) (.prod (.sl 245 Y3) (.int .i64))
open Go.Proofs
def tis : List (Nat × TI) := [
(1, ⟨false, 1, 8, [.undef], none, none, []⟩),
(2, ⟨false, 1, 8, [.int .i64 0], some (.int .i64), none, []⟩),
(3, ⟨false, 1, 8, [.int .i64 0], some (.int .i64), none, []⟩),
(4, ⟨false, 1, 1, [.bool false], some (.bool), none, []⟩),
(5, ⟨false, 1, 1, [.int .u8 0], some (.int .u8), none, []⟩),
(6, ⟨false, 1, 1, [.int .u8 0], some (.int .u8), none, []⟩),
(7, ⟨true, 4, 24, [.int .i64 0, .int .i64 0, .bool false, .int .u8 0], some Y17, none, [(0, 2), (1, 3), (2, 4), (3, 6)]⟩),
(8, ⟨true, 4, 24, [.int .i64 0, .int .i64 0, .bool false, .int .u8 0], some Y17, none, [(0, 2), (1, 3), (2, 4), (3, 6)]⟩),
(9, ⟨false, 1, 16, [.str []], some (.str), none, []⟩),
(10, ⟨false, 1, 16, [.str []], some (.str), none, []⟩),
(11, ⟨false, 1, 16, [.str []], some (.str), none, []⟩),
(12, ⟨false, 1, 8, [.int .u64 0], some (.int .u64), none, []⟩),
(13, ⟨true, 2, 24, [.str [], .int .u64 0], some (.prod .str (.int .u64)), none, [(0, 9), (1, 12)]⟩),
(14, ⟨true, 2, 24, [.str [], .int .u64 0], some (.prod .str (.int .u64)), none, [(0, 9), (1, 12)]⟩),
(15, ⟨false, 1, 8, [.undef], none, none, []⟩),
(16, ⟨false, 1, 8, [.undef], none, none, []⟩),
(17, ⟨false, 1, 8, [.undef], none, none, []⟩),
(18, ⟨true, 1, 8, [.undef], none, none, [(0, 17)]⟩),
(19, ⟨true, 1, 8, [.undef], none, none, [(0, 17)]⟩),
(20, ⟨false, 1, 16, [.undef], none, none, []⟩),
(21, ⟨false, 1, 4, [.int .i32 0], some (.int .i32), none, []⟩),
(22, ⟨false, 1, 24, [.emp 118 Y10], some (.sl 118 Y10), some 118, []⟩),
(23, ⟨false, 1, 8, [.undef], none, none, []⟩),
(24, ⟨false, 1, 24, [.emp 123 Y15], some (.sl 123 Y15), some 123, []⟩),
(25, ⟨false, 1, 8, [.undef], none, none, []⟩),
(26, ⟨false, 1, 24, [.emp 120 Y11], some (.sl 120 Y11), some 120, []⟩),
(27, ⟨false, 1, 8, [.undef], none, none, []⟩),
(28, ⟨false, 1, 8, [.undef], none, none, []⟩),
(29, ⟨false, 1, 8, [.undef], none, none, []⟩),
(30, ⟨false, 1, 8, [.undef], none, none, []⟩),
(31, ⟨false, 1, 8, [.undef], none, none, []⟩),
(32, ⟨false, 1, 8, [.undef], none, none, []⟩),
(33, ⟨false, 1, 24, [.emp 2 (.int .i64)], some (.sl 2 (.int .i64)), some 2, []⟩),
(34, ⟨false, 1, 24, [.emp 201 Y15], some (.sl 201 Y15), some 201, []⟩),
(35, ⟨true, 2, 48, [.emp 2 (.int .i64), .emp 201 Y15], some Y12, none, [(0, 33), (1, 34)]⟩),
(36, ⟨true, 2, 48, [.emp 2 (.int .i64), .emp 201 Y15], some Y12, none, [(0, 33), (1, 34)]⟩),
(37, ⟨false, 1, 24, [.emp 131 Y19], some (.sl 131 Y19), some 131, []⟩),
(38, ⟨false, 1, 8, [.undef], none, none, []⟩),
(39, ⟨false, 1, 8, [.undef], none, none, []⟩),
(40, ⟨false, 1, 8, [.undef], none, none, []⟩),
(41, ⟨true, 2, 48, [.emp 2 (.int .i64), .emp 123 Y15], some Y13, none, [(0, 33), (1, 24)]⟩),
(42, ⟨true, 2, 48, [.emp 2 (.int .i64), .emp 123 Y15], some Y13, none, [(0, 33), (1, 24)]⟩),
(43, ⟨false, 1, 8, [.undef], none, none, []⟩),
(44, ⟨false, 1, 24, [.emp 58 Y19], some (.sl 58 Y19), some 58, []⟩),
(45, ⟨false, 1, 8, [.undef], none, none, []⟩),
(46, ⟨false, 1, 8, [.undef], none, none, []⟩),
(47, ⟨false, 1, 8, [.undef], none, none, []⟩),
(48, ⟨false, 1, 8, [.undef], none, none, []⟩),
(49, ⟨false, 1, 24, [.emp 5 (.int .u8)], some (.sl 5 (.int .u8)), some 5, []⟩),
(50, ⟨false, 1, 8, [.undef], none, none, []⟩),
(52, ⟨false, 1, 8, [.undef], none, none, []⟩),
(54, ⟨false, 1, 8, [.undef], none, none, []⟩),
(55, ⟨false, 1, 8, [.int .u64 0], some (.int .u64), none, []⟩),
(56, ⟨false, 1, 24, [.emp 155 (.int .u64)], some (.sl 155 (.int .u64)), some 155, []⟩),
(57, ⟨true, 2, 32, [.int .i64 0, .emp 155 (.int .u64)], some Y19, none, [(0, 2), (1, 56)]⟩),
(58, ⟨true, 2, 32, [.int .i64 0, .emp 155 (.int .u64)], some Y19, none, [(0, 2), (1, 56)]⟩),
(60, ⟨false, 1, 8, [.undef], none, none, []⟩),
(61, ⟨false, 1, 24, [.emp 167 Y21], some (.sl 167 Y21), some 167, []⟩),
(63, ⟨false, 1, 8, [.undef], none, none, []⟩),
(65, ⟨false, 1, 8, [.undef], none, none, []⟩),
(66, ⟨false, 1, 8, [.undef], none, none, []⟩),
(67, ⟨false, 1, 8, [.undef], none, none, []⟩),
(68, ⟨false, 1, 8, [.undef], none, none, []⟩),
(69, ⟨false, 1, 8, [.undef], none, none, []⟩),
(70, ⟨false, 1, 8, [.undef], none, none, []⟩),
(71, ⟨false, 1, 8, [.undef], none, none, []⟩),
(72, ⟨false, 1, 24, [.emp 164 Y21], some (.sl 164 Y21), some 164, []⟩),
(73, ⟨false, 1, 24, [.emp 226 Y9], some (.sl 226 Y9), some 226, []⟩),
(74, ⟨true, 1, 24, [.emp 226 Y9], some (.sl 226 Y9), none, [(0, 73)]⟩),
(75, ⟨true, 1, 24, [.emp 226 Y9], some (.sl 226 Y9), none, [(0, 73)]⟩),
(76, ⟨false, 1, 8, [.undef], none, none, []⟩),
(77, ⟨false, 1, 8, [.undef], none, none, []⟩),
(78, ⟨false, 1, 8, [.undef], none, none, []⟩),
(79, ⟨false, 1, 8, [.undef], none, none, []⟩),
(80, ⟨false, 1, 24, [.emp 174 Y9], some (.sl 174 Y9), some 174, []⟩),
(81, ⟨true, 1, 24, [.emp 174 Y9], some (.sl 174 Y9), none, [(0, 80)]⟩),
(82, ⟨true, 1, 24, [.emp 174 Y9], some (.sl 174 Y9), none, [(0, 80)]⟩),
(83, ⟨false, 1, 8, [.undef], none, none, []⟩),
(84, ⟨false, 1, 8, [.undef], none, none, []⟩),
(85, ⟨false, 1, 8, [.undef], none, none, []⟩),
(86, ⟨false, 1, 8, [.undef], none, none, []⟩),
(87, ⟨false, 1, 24, [.emp 177 Y5], some (.sl 177 Y5), some 177, []⟩),
(88, ⟨false, 1, 8, [.undef], none, none, []⟩),
(89, ⟨false, 1, 8, [.undef], none, none, []⟩),
(90, ⟨false, 1, 24, [.emp 179 Y6], some (.sl 179 Y6), some 179, []⟩),
(91, ⟨false, 1, 8, [.undef], none, none, []⟩),
(92, ⟨false, 1, 8, [.undef], none, none, []⟩),
(93, ⟨false, 1, 8, [.undef], none, none, []⟩),
(94, ⟨false, 1, 8, [.undef], none, none, []⟩),
(95, ⟨false, 1, 8, [.undef], none, none, []⟩),
(96, ⟨false, 1, 24, [.emp 102 Y14], some (.sl 102 Y14), some 102, []⟩),
(98, ⟨false, 1, 8, [.undef], none, none, []⟩),
(100, ⟨false, 1, 8, [.undef], none, none, []⟩),
(101, ⟨true, 5, 56, [.int .i64 0, .int .i64 0, .int .i64 0, .int .i64 0, .emp 155 (.int .u64)], some Y14, none, [(0, 2), (1, 2), (2, 2), (3, 58)]⟩),
(102, ⟨true, 5, 56, [.int .i64 0, .int .i64 0, .int .i64 0, .int .i64 0, .emp 155 (.int .u64)], some Y14, none, [(0, 2), (1, 2), (2, 2), (3, 58)]⟩),
(103, ⟨false, 1, 8, [.undef], none, none, []⟩),
(104, ⟨false, 1, 8, [.undef], none, none, []⟩),
(105, ⟨false, 1, 24, [.emp 245 Y3], some (.sl 245 Y3), some 245, []⟩),
(106, ⟨true, 3, 56, [.emp 164 Y21, .emp 245 Y3, .int .i64 0], some Y1, none, [(0, 72), (1, 105), (2, 2)]⟩),
(107, ⟨true, 3, 56, [.emp 164 Y21, .emp 245 Y3, .int .i64 0], some Y1, none, [(0, 72), (1, 105), (2, 2)]⟩),
(108, ⟨false, 1, 8, [.undef], none, none, []⟩),
(109, ⟨false, 1, 8, [.undef], none, none, []⟩),
(110, ⟨false, 1, 24, [.emp 194 Y4], some (.sl 194 Y4), some 194, []⟩),
(111, ⟨true, 3, 56, [.emp 167 Y21, .emp 194 Y4, .int .i64 0], some Y2, none, [(0, 61), (1, 110), (2, 2)]⟩),
(112, ⟨true, 3, 56, [.emp 167 Y21, .emp 194 Y4, .int .i64 0], some Y2, none, [(0, 61), (1, 110), (2, 2)]⟩),
(113, ⟨false, 1, 8, [.undef], none, none, []⟩),
(114, ⟨false, 1, 8, [.undef], none, none, []⟩),
(115, ⟨false, 1, 8, [.undef], none, none, []⟩),
(116, ⟨false, 1, 8, [.undef], none, none, []⟩),
(117, ⟨true, 3, 40, [.int .i64 0, .int .i64 0, .emp 201 Y15], some Y10, none, [(0, 2), (1, 2), (2, 34)]⟩),
(118, ⟨true, 3, 40, [.int .i64 0, .int .i64 0, .emp 201 Y15], some Y10, none, [(0, 2), (1, 2), (2, 34)]⟩),
(119, ⟨true, 3, 40, [.int .i64 0, .int .i64 0, .emp 123 Y15], some Y11, none, [(0, 2), (1, 2), (2, 24)]⟩),
(120, ⟨true, 3, 40, [.int .i64 0, .int .i64 0, .emp 123 Y15], some Y11, none, [(0, 2), (1, 2), (2, 24)]⟩),
(121, ⟨false, 1, 8, [.undef], none, none, []⟩),
(122, ⟨true, 4, 48, [.int .i64 0, .int .i64 0, .int .i64 0, .emp 155 (.int .u64)], some Y15, none, [(0, 2), (1, 2), (2, 58)]⟩),
(123, ⟨true, 4, 48, [.int .i64 0, .int .i64 0, .int .i64 0, .emp 155 (.int .u64)], some Y15, none, [(0, 2), (1, 2), (2, 58)]⟩),
(124, ⟨false, 1, 8, [.undef], none, none, []⟩),
(125, ⟨false, 1, 8, [.undef], none, none, []⟩),
(126, ⟨false, 1, 8, [.undef], none, none, []⟩),
(127, ⟨false, 1, 8, [.undef], none, none, []⟩),
(128, ⟨false, 1, 8, [.undef], none, none, []⟩),
(129, ⟨false, 1, 8, [.undef], none, none, []⟩),
(130, ⟨false, 1, 8, [.undef], none, none, []⟩),
(131, ⟨true, 2, 32, [.int .i64 0, .emp 155 (.int .u64)], some Y19, none, [(0, 2), (1, 56)]⟩),
(132, ⟨false, 1, 8, [.undef], none, none, []⟩),
(133, ⟨false, 1, 8, [.undef], none, none, []⟩),
(134, ⟨false, 1, 8, [.undef], none, none, []⟩),
(135, ⟨false, 1, 8, [.undef], none, none, []⟩),
(136, ⟨false, 1, 8, [.undef], none, none, []⟩),
(137, ⟨false, 1, 8, [.undef], none, none, []⟩),
(138, ⟨false, 1, 8, [.undef], none, none, []⟩),
(139, ⟨false, 1, 8, [.undef], none, none, []⟩),
(140, ⟨false, 1, 8, [.undef], none, none, []⟩),
(141, ⟨false, 1, 8, [.undef], none, none, []⟩),
(142, ⟨false, 1, 8, [.undef], none, none, []⟩),
(143, ⟨false, 1, 8, [.undef], none, none, []⟩),
(144, ⟨false, 1, 8, [.undef], none, none, []⟩),
(145, ⟨false, 1, 8, [.undef], none, none, []⟩),
(146, ⟨true, 7, 120, [.emp 2 (.int .i64), .emp 123 Y15, .emp 58 Y19, .emp 2 (.int .i64), .int .i64 0, .int .i64 0, .bool false], some Y8, none, [(0, 42), (2, 44), (3, 33), (4, 2), (5, 2), (6, 4)]⟩),
(147, ⟨true, 7, 120, [.emp 2 (.int .i64), .emp 123 Y15, .emp 58 Y19, .emp 2 (.int .i64), .int .i64 0, .int .i64 0, .bool false], some Y8, none, [(0, 42), (2, 44), (3, 33), (4, 2), (5, 2), (6, 4)]⟩),
(148, ⟨false, 1, 8, [.undef], none, none, []⟩),
(149, ⟨false, 1, 8, [.undef], none, none, []⟩),
(150, ⟨false, 1, 8, [.undef], none, none, []⟩),
(151, ⟨false, 1, 8, [.undef], none, none, []⟩),
(152, ⟨false, 1, 8, [.undef], none, none, []⟩),
(153, ⟨false, 1, 8, [.undef], none, none, []⟩),
(154, ⟨false, 1, 8, [.undef], none, none, []⟩),
(155, ⟨false, 1, 8, [.int .u64 0], some (.int .u64), none, []⟩),
(156, ⟨true, 2, 48, [.emp 2 (.int .i64), .emp 58 Y19], some Y16, none, [(0, 33), (1, 44)]⟩),
(157, ⟨true, 2, 48, [.emp 2 (.int .i64), .emp 58 Y19], some Y16, none, [(0, 33), (1, 44)]⟩),
(158, ⟨false, 1, 24, [.emp 157 Y16], some (.sl 157 Y16), some 157, []⟩),
(159, ⟨false, 1, 8, [.undef], none, none, []⟩),
(160, ⟨false, 1, 8, [.undef], none, none, []⟩),
(161, ⟨false, 1, 8, [.undef], none, none, []⟩),
(162, ⟨false, 1, 8, [.undef], none, none, []⟩),
(163, ⟨true, 2, 24, [.str [], .int .i64 0], some Y21, none, [(0, 9), (1, 2)]⟩),
(164, ⟨true, 2, 24, [.str [], .int .i64 0], some Y21, none, [(0, 9), (1, 2)]⟩),
(165, ⟨false, 1, 8, [.undef], none, none, []⟩),
(166, ⟨false, 1, 8, [.undef], none, none, []⟩),
(167, ⟨true, 2, 24, [.str [], .int .i64 0], some Y21, none, [(0, 9), (1, 2)]⟩),
(168, ⟨false, 1, 8, [.undef], none, none, []⟩),
(169, ⟨false, 1, 8, [.undef], none, none, []⟩),
(170, ⟨false, 1, 8, [.undef], none, none, []⟩),
(171, ⟨false, 1, 8, [.undef], none, none, []⟩),
(172, ⟨false, 1, 8, [.undef], none, none, []⟩),
(173, ⟨true, 7, 88, [.int .i64 0, .int .i64 0, .int .i64 0, .int .i64 0, .int .i64 0, .emp 155 (.int .u64), .emp 2 (.int .i64)], some Y9, none, [(0, 2), (1, 2), (2, 2), (3, 2), (4, 58), (6, 33)]⟩),
(174, ⟨true, 7, 88, [.int .i64 0, .int .i64 0, .int .i64 0, .int .i64 0, .int .i64 0, .emp 155 (.int .u64), .emp 2 (.int .i64)], some Y9, none, [(0, 2), (1, 2), (2, 2), (3, 2), (4, 58), (6, 33)]⟩),
(175, ⟨false, 1, 8, [.undef], none, none, []⟩),
(176, ⟨true, 4, 64, [.int .i64 0, .bool false, .emp 226 Y9, .emp 226 Y9], some Y5, none, [(0, 2), (1, 4), (2, 75), (3, 75)]⟩),
(177, ⟨true, 4, 64, [.int .i64 0, .bool false, .emp 226 Y9, .emp 226 Y9], some Y5, none, [(0, 2), (1, 4), (2, 75), (3, 75)]⟩),
(178, ⟨true, 4, 64, [.int .i64 0, .bool false, .emp 174 Y9, .emp 174 Y9], some Y6, none, [(0, 2), (1, 4), (2, 82), (3, 82)]⟩),
(179, ⟨true, 4, 64, [.int .i64 0, .bool false, .emp 174 Y9, .emp 174 Y9], some Y6, none, [(0, 2), (1, 4), (2, 82), (3, 82)]⟩),
(180, ⟨false, 1, 8, [.undef], none, none, []⟩),
(181, ⟨false, 1, 8, [.undef], none, none, []⟩),
(182, ⟨false, 1, 8, [.undef], none, none, []⟩),
(183, ⟨false, 1, 8, [.undef], none, none, []⟩),
(184, ⟨false, 1, 8, [.undef], none, none, []⟩),
(194, ⟨true, 2, 32, [.int .i64 0, .emp 179 Y6], some Y4, none, [(0, 2), (1, 90)]⟩),
(200, ⟨true, 4, 48, [.int .i64 0, .int .i64 0, .int .i64 0, .emp 155 (.int .u64)], some Y15, none, [(0, 2), (1, 2), (2, 131)]⟩),
(201, ⟨true, 4, 48, [.int .i64 0, .int .i64 0, .int .i64 0, .emp 155 (.int .u64)], some Y15, none, [(0, 2), (1, 2), (2, 131)]⟩),
(204, ⟨false, 1, 8, [.undef], none, none, []⟩),
(205, ⟨false, 1, 8, [.undef], none, none, []⟩),
(206, ⟨false, 1, 8, [.undef], none, none, []⟩),
(207, ⟨false, 1, 8, [.undef], none, none, []⟩),
(208, ⟨false, 1, 8, [.undef], none, none, []⟩),
(209, ⟨true, 2, 32, [.emp 5 (.int .u8), .int .i64 0], some Y20, none, [(0, 49), (1, 3)]⟩),
(210, ⟨true, 2, 32, [.emp 5 (.int .u8), .int .i64 0], some Y20, none, [(0, 49), (1, 3)]⟩),
(214, ⟨false, 1, 8, [.undef], none, none, []⟩),
(217, ⟨true, 7, 136, [.emp 2 (.int .i64), .emp 123 Y15, .emp 157 Y16, .emp 2 (.int .i64), .emp 58 Y19, .int .i64 0, .int .i64 0], some Y7, none, [(0, 42), (2, 158), (3, 33), (4, 44), (5, 2), (6, 2)]⟩),
(221, ⟨false, 1, 8, [.undef], none, none, []⟩),
(222, ⟨false, 1, 8, [.undef], none, none, []⟩),
(223, ⟨false, 1, 8, [.undef], none, none, []⟩),
(226, ⟨true, 7, 88, [.int .i64 0, .int .i64 0, .int .i64 0, .int .i64 0, .int .i64 0, .emp 155 (.int .u64), .emp 2 (.int .i64)], some Y9, none, [(0, 2), (1, 2), (2, 2), (3, 2), (4, 131), (6, 33)]⟩),
(245, ⟨true, 2, 32, [.int .i64 0, .emp 177 Y5], some Y3, none, [(0, 2), (1, 87)]⟩),
(251, ⟨false, 1, 8, [.undef], none, none, []⟩),
(256, ⟨false, 1, 8, [.undef], none, none, []⟩)]
noncomputable def fns : List (Nat × Func) := [(5, Try.f5), (29, Try.f29), (32, Try.f32), (33, Try.f33), (34, Try.f34), (35, Try.f35), (36, Try.f36), (46, Try.f46), (47, Try.f47), (77, Try.f77), (87, Try.f87), (88, Try.f88), (92, Try.f92), (93, Try.f93), (94, Try.f94), (95, Try.f95), (96, Try.f96), (99, Try.f99), (100, Try.f100), (101, Try.f101), (102, Try.f102), (103, Try.f103), (104, Try.f104), (105, Try.f105), (106, Try.f106), (107, Try.f107), (108, Try.f108), (109, Try.f109), (110, Try.f110), (114, Try.f114), (115, Try.f115), (118, Try.f118), (119, Try.f119), (120, Try.f120), (121, Try.f121), (122, Try.f122), (154, Try.f154), (159, Try.f159), (162, Try.f162), (163, Try.f163), (164, Try.f164), (165, Try.f165), (166, Try.f166), (168, Try.f168), (169, Try.f169), (170, Try.f170), (171, Try.f171), (172, Try.f172), (173, Try.f173), (174, Try.f174), (175, Try.f175), (176, Try.f176), (177, Try.f177), (178, Try.f178), (179, Try.f179), (181, Try.f181), (182, Try.f182), (183, Try.f183), (184, Try.f184), (204, Try.f204), (205, Try.f205), (206, Try.f206), (207, Try.f207), (208, Try.f208), (209, Try.f209), (223, Try.f223)]
def fis : List (Nat × Fi) := [
(5, ⟨[], [], [(14, ⟨⟨[3, 11, 12], []⟩, [(0, ⟨[3, 11], []⟩)], ⟨[2], []⟩⟩), (18, ⟨⟨[3, 11, 13], []⟩, [(2, ⟨[], []⟩)], ⟨[2], []⟩⟩), (23, ⟨⟨[3, 11, 13, 14, 15, 16], [(15, 0, .own 99)]⟩, [(4, ⟨[3, 11, 13, 15], []⟩)], ⟨[2], []⟩⟩)]⟩),
(29, ⟨[], [], [(4, ⟨⟨[2, 3, 18, 19, 20], []⟩, [(0, ⟨[2, 3], []⟩)], ⟨[4], []⟩⟩)]⟩),
(32, ⟨[], [], []⟩),
(33, ⟨[], [], []⟩),
(34, ⟨[], [], [(6, ⟨⟨[1, 2, 7, 8, 9], [(1000031, 3, .own 99)]⟩, [(0, ⟨[1, 2, 7, 8], []⟩)], ⟨[4, 5, 6], []⟩⟩), (16, ⟨⟨[2, 8, 11], []⟩, [(2, ⟨[8], []⟩)], ⟨[4, 5, 6], []⟩⟩), (20, ⟨⟨[2, 8, 11, 12], [(1000012, 1, .own 99)]⟩, [(4, ⟨[2, 8, 11, 12], []⟩)], ⟨[4, 5, 6], []⟩⟩)]⟩),
(35, ⟨[], [], []⟩),
(36, ⟨[], [], [(5, ⟨⟨[0, 1, 4, 6, 7], [(6, 0, .own 99)]⟩, [(0, ⟨[1, 4, 6], []⟩)], ⟨[4, 5], []⟩⟩)]⟩),
(46, ⟨[], [], [(5, ⟨⟨[1, 3, 4], []⟩, [(0, ⟨[1, 3], []⟩)], ⟨[2], []⟩⟩), (10, ⟨⟨[1, 3, 5], []⟩, [(2, ⟨[], []⟩)], ⟨[2], []⟩⟩), (1000014, ⟨⟨[1, 3, 5, 6, 64], []⟩, [(1000000, ⟨[1, 3, 5, 6], []⟩)], ⟨[2], []⟩⟩), (1000015, ⟨⟨[1, 3, 5, 6], []⟩, [(1000000, ⟨[1, 3, 5], []⟩)], ⟨[2], []⟩⟩)]⟩),
(47, ⟨[], [], [(5, ⟨⟨[3, 10, 11, 12], []⟩, [(0, ⟨[3], []⟩)], ⟨[2], []⟩⟩)]⟩),
(77, ⟨[2], [], [(2, ⟨⟨[0, 3, 5], []⟩, [(0, ⟨[0, 3], []⟩)], ⟨[4], []⟩⟩)]⟩),
(87, ⟨[], [], [(4, ⟨⟨[1, 3], []⟩, [(0, ⟨[], []⟩)], ⟨[2], []⟩⟩)]⟩),
(88, ⟨[], [], [(4, ⟨⟨[2, 3, 5], []⟩, [(0, ⟨[], []⟩)], ⟨[4], []⟩⟩)]⟩),
(92, ⟨[], [], [(4, ⟨⟨[1, 16, 17, 18], []⟩, [(0, ⟨[1], []⟩)], ⟨[2], []⟩⟩)]⟩),
(93, ⟨[], [], []⟩),
(94, ⟨[], [], []⟩),
(95, ⟨[], [], []⟩),
(96, ⟨[], [], []⟩),
(99, ⟨[], [], []⟩),
(100, ⟨[1], [], [(5, ⟨⟨[0, 2, 3, 4, 5, 6], [(1000003, 0, .own 99)]⟩, [(0, ⟨[0, 2, 3, 5], []⟩)], ⟨[2], []⟩⟩), (13, ⟨⟨[0, 2, 3, 5, 7], [(1000003, 1, .own 99)]⟩, [(2, ⟨[0, 2, 3, 5], []⟩)], ⟨[2], []⟩⟩), (29, ⟨⟨[2, 3, 10], []⟩, [(5, ⟨[2, 3], []⟩)], ⟨[2], []⟩⟩), (34, ⟨⟨[0, 2, 3, 5], [(1000003, 1, .own 99)]⟩, [(7, ⟨[2, 3], []⟩)], ⟨[2], []⟩⟩)]⟩),
(101, ⟨[1], [], []⟩),
(102, ⟨[1], [], []⟩),
(103, ⟨[], [], []⟩),
(104, ⟨[], [], [(4, ⟨⟨[1, 2, 5, 6, 7], [(5, 0, .own 99), (6, 0, .own 99)]⟩, [(0, ⟨[5, 6], []⟩)], ⟨[4], []⟩⟩)]⟩),
(105, ⟨[1], [], [(10, ⟨⟨[0, 1, 5, 6, 7], []⟩, [(0, ⟨[], []⟩)], ⟨[4], []⟩⟩)]⟩),
(106, ⟨[], [], [(2, ⟨⟨[1, 2, 4, 7, 9], []⟩, [(0, ⟨[], []⟩)], ⟨[8], []⟩⟩)]⟩),
(107, ⟨[], [], [(5, ⟨⟨[2, 4, 5], []⟩, [(0, ⟨[2], []⟩)], ⟨[2, 3], []⟩⟩)]⟩),
(108, ⟨[], [], []⟩),
(109, ⟨[], [], [(8, ⟨⟨[7, 26, 27, 28], []⟩, [(1, ⟨[7], []⟩)], ⟨[4, 5, 6], []⟩⟩), (12, ⟨⟨[7, 8, 10, 26, 27, 28], [(1000010, 1, .own 99)]⟩, [(3, ⟨[7, 8, 10, 26, 27, 28], []⟩)], ⟨[4, 5, 6], []⟩⟩)]⟩),
(110, ⟨[], [], [(5, ⟨⟨[0, 2, 4, 5], []⟩, [(0, ⟨[2, 4], []⟩)], ⟨[2, 3], []⟩⟩)]⟩),
(114, ⟨[], [], [(2, ⟨⟨[0, 1, 5], []⟩, [(0, ⟨[], []⟩)], ⟨[4], []⟩⟩)]⟩),
(115, ⟨[], [], []⟩),
(118, ⟨[], [], []⟩),
(119, ⟨[], [some 2], [(4, ⟨⟨[3, 4, 14, 15, 16], [(1000003, 0, .own 2)]⟩, [(0, ⟨[3], []⟩)], ⟨[2], []⟩⟩)]⟩),
(120, ⟨[], [], []⟩),
(121, ⟨[], [], []⟩),
(122, ⟨[], [], []⟩),
(154, ⟨[], [], []⟩),
(159, ⟨[], [], []⟩),
(162, ⟨[], [], []⟩),
(163, ⟨[], [], []⟩),
(164, ⟨[], [], []⟩),
(165, ⟨[], [], [(2, ⟨⟨[0, 1, 7, 8], []⟩, [(0, ⟨[], []⟩)], ⟨[4], []⟩⟩)]⟩),
(166, ⟨[], [], [(4, ⟨⟨[0, 1, 12, 13], []⟩, [(0, ⟨[], []⟩)], ⟨[4], []⟩⟩)]⟩),
(168, ⟨[1], [], []⟩),
(169, ⟨[1], [], []⟩),
(170, ⟨[1], [], [(5, ⟨⟨[1, 4, 5, 6, 7, 8], [(5, 0, .own 99)]⟩, [(0, ⟨[4, 5], []⟩)], ⟨[4], []⟩⟩)]⟩),
(171, ⟨[1], [], []⟩),
(172, ⟨[], [], [(3, ⟨⟨[0, 3, 4], [(3, 0, .own 99)]⟩, [(0, ⟨[3], []⟩)], ⟨[2], []⟩⟩), (8, ⟨⟨[0, 3, 4, 5], []⟩, [(2, ⟨[0, 3, 4, 5], []⟩)], ⟨[2], []⟩⟩)]⟩),
(173, ⟨[], [], [(3, ⟨⟨[1, 3, 4], [(3, 0, .own 99)]⟩, [(0, ⟨[3], []⟩)], ⟨[2], []⟩⟩)]⟩),
(174, ⟨[], [], [(3, ⟨⟨[5, 19, 20, 21], [(1000017, 3, .own 99)]⟩, [(0, ⟨[5], []⟩)], ⟨[4], []⟩⟩)]⟩),
(175, ⟨[1], [], [(9, ⟨⟨[0, 1, 5, 6, 50, 51], []⟩, [(0, ⟨[], []⟩)], ⟨[4], []⟩⟩)]⟩),
(176, ⟨[], [], []⟩),
(177, ⟨[], [], []⟩),
(178, ⟨[], [], [(5, ⟨⟨[2, 4, 21, 22], []⟩, [(0, ⟨[2, 4], []⟩)], ⟨[2, 3], []⟩⟩)]⟩),
(179, ⟨[1], [], [(3, ⟨⟨[0, 3, 4], []⟩, [(0, ⟨[3], []⟩)], ⟨[2], []⟩⟩)]⟩),
(181, ⟨[], [], []⟩),
(182, ⟨[0, 0, 1], [], []⟩),
(183, ⟨[], [], []⟩),
(184, ⟨[], [], []⟩),
(204, ⟨[1], [], []⟩),
(205, ⟨[], [], []⟩),
(206, ⟨[], [], []⟩),
(207, ⟨[], [], []⟩),
(208, ⟨[], [], [(2, ⟨⟨[0, 1, 7, 8], []⟩, [(0, ⟨[], []⟩)], ⟨[4], []⟩⟩)]⟩),
(209, ⟨[], [], [(2, ⟨⟨[0, 1, 7, 8], []⟩, [(0, ⟨[], []⟩)], ⟨[4], []⟩⟩)]⟩),
(223, ⟨[], [], [(2, ⟨⟨[0, 1, 7, 8], []⟩, [(0, ⟨[], []⟩)], ⟨[4], []⟩⟩)]⟩)]
def fiF (f : Nat) : Fi := (look f fis).getD ⟨[], [], []⟩
noncomputable def C : Ctx := { ti := fun t => look t tis, fs := fun f => look f fns, fi := fiF }
def bodyOf (f : Func) : Code := f.body.getD .skip
def loopOf (f : Func) (k : Nat) : Code := (findLoop k (bodyOf f)).getD .skip
def cutOf (f : Func) (k : Nat) : Code := (findCut k (bodyOf f)).getD .skip
def liOf (l : List (Nat × Li)) (k : Nat) : Li := (look k l).getD ⟨⟨[], []⟩, [], ⟨[], []⟩⟩
theorem tis_ok : (tis.all fun x => tiB Try.prog x.1 x.2) = true := by kernel_rfl
theorem fns_all : (fns.all fun x => fnB (fiF x.1) x.2) = true := by kernel_rfl
theorem fnp (f : Nat) (x : Func) (r : List (Nat × Func)) (h : Try.prog.funcs[f]? = some x) (hr : ∀ y ∈ r, Try.prog.funcs[y.1]? = some y.2) : ∀ y ∈ (f, x) :: r, Try.prog.funcs[y.1]? = some y.2 := List.forall_mem_cons.2 ⟨h, hr⟩
set_option maxRecDepth 100000 in
theorem fns_prog : ∀ x ∈ fns, Try.prog.funcs[x.1]? = some x.2 := (fnp _ _ _ Try.func5
(fnp _ _ _ Try.func29
(fnp _ _ _ Try.func32
(fnp _ _ _ Try.func33
(fnp _ _ _ Try.func34
(fnp _ _ _ Try.func35
(fnp _ _ _ Try.func36
(fnp _ _ _ Try.func46
(fnp _ _ _ Try.func47
(fnp _ _ _ Try.func77
(fnp _ _ _ Try.func87
(fnp _ _ _ Try.func88
(fnp _ _ _ Try.func92
(fnp _ _ _ Try.func93
(fnp _ _ _ Try.func94
(fnp _ _ _ Try.func95
(fnp _ _ _ Try.func96
(fnp _ _ _ Try.func99
(fnp _ _ _ Try.func100
(fnp _ _ _ Try.func101
(fnp _ _ _ Try.func102
(fnp _ _ _ Try.func103
(fnp _ _ _ Try.func104
(fnp _ _ _ Try.func105
(fnp _ _ _ Try.func106
(fnp _ _ _ Try.func107
(fnp _ _ _ Try.func108
(fnp _ _ _ Try.func109
(fnp _ _ _ Try.func110
(fnp _ _ _ Try.func114
(fnp _ _ _ Try.func115
(fnp _ _ _ Try.func118
(fnp _ _ _ Try.func119
(fnp _ _ _ Try.func120
(fnp _ _ _ Try.func121
(fnp _ _ _ Try.func122
(fnp _ _ _ Try.func154
(fnp _ _ _ Try.func159
(fnp _ _ _ Try.func162
(fnp _ _ _ Try.func163
(fnp _ _ _ Try.func164
(fnp _ _ _ Try.func165
(fnp _ _ _ Try.func166
(fnp _ _ _ Try.func168
(fnp _ _ _ Try.func169
(fnp _ _ _ Try.func170
(fnp _ _ _ Try.func171
(fnp _ _ _ Try.func172
(fnp _ _ _ Try.func173
(fnp _ _ _ Try.func174
(fnp _ _ _ Try.func175
(fnp _ _ _ Try.func176
(fnp _ _ _ Try.func177
(fnp _ _ _ Try.func178
(fnp _ _ _ Try.func179
(fnp _ _ _ Try.func181
(fnp _ _ _ Try.func182
(fnp _ _ _ Try.func183
(fnp _ _ _ Try.func184
(fnp _ _ _ Try.func204
(fnp _ _ _ Try.func205
(fnp _ _ _ Try.func206
(fnp _ _ _ Try.func207
(fnp _ _ _ Try.func208
(fnp _ _ _ Try.func209
(fnp _ _ _ Try.func223
(fun _ h => by cases h)))))))))))))))))))))))))))))))))))))))))))))))))))))))))))))))))))
theorem C_ok : CtxOK Try.prog C := ctx_ok tis_ok fns_prog
theorem C_fns : FnsOK Try.prog C := Go.Vsi.fns_ok fns_all
theorem C_follows : Try.prog.follows .mixedOrders = true := by kernel_rfl
def D0 (n : Nat) : CallF := noC
theorem D0_ok {X0 : CallF} (hX : CallF.Mono X0) : ∀ n g a K, D0 n g a K -> callM C X0 n g a K := fun n => noC_ok
end Go.Vsi
end

section
set_option linter.unusedVariables false
namespace Go.Vsi
open Go.Proofs
section
variable {X0 : CallF} (hX : CallF.Mono X0)
include hX
abbrev Z62.a : List TS := [.a [.o (.int .i64), .o (.dat 155 (.int .u64))], .a [.o (.int .i64), .o (.dat 155 (.int .u64))]]
def Z62.u (n : Nat) (v : VA Z62.a) (K : RES -> Prop) : Prop := Z62.c n v.1.1 v.1.2.1 v.2.1.1 v.2.1.2.1 (fun r0 => K ⟨.c (.bool r0), []⟩)
abbrev Z62.l4.s : ST := ⟨[(2, .c (.o (.pbox 2 0))), (3, .c (.o (.pbox 3 0))), (5, .c (.o (.int .i64)))], [], [⟨2, 58, [.o (.int .i64), .o (.dat 155 (.int .u64))], false⟩, ⟨3, 58, [.o (.int .i64), .o (.dat 155 (.int .u64))], false⟩], [], []⟩
def Z62.l4.u (n : Nat) (v : Z62.l4.s.V) (K : X -> St -> Prop) : Prop := Z62.l4 n v.2.2.1.1 v.2.2.1.2.1 v.2.2.2.1.1 v.2.2.2.1.2.1 v.1.2.2.1 (K (.exit 0) ⟨[], [], [], [], []⟩) (fun y0 => K .ret ⟨[(4, .c (.bool y0))], [], [], [], []⟩)
theorem Z62.l4_ok : ∀ n v K, Z62.l4.u n v K -> loopM C X0 n 88 4 (Z62.l4.s.fill v) K :=
 loop_tell hX (fn := Try.f88) (c := bodyOf Try.f88) (a := loopOf Try.f88 4) (li := liOf (C.fi 88).loops 4) (by kernel_rfl) (by kernel_rfl) (of_decide_eq_true rfl) (by kernel_rfl) (by kernel_rfl) (T := Z62.l4.s) (u := Z62.l4.u) (fun _ _ h => h) (call := D0) (lp := fun n => noL) (D0_ok hX) (fun n => noL_ok) (fun n v K => by kernel_rfl)
theorem Z62_ok : ∀ n v K, Z62.u n v K -> callM C X0 n 88 (fillA Z62.a v) K :=
 call_tell hX (fn := Try.f88) (c := bodyOf Try.f88) (by kernel_rfl) (by kernel_rfl) (A := Z62.a) (u := Z62.u) (fun _ _ h => h) (call := D0) (lp := fun n => orL 4 Z62.l4.s (Z62.l4.u n) noL) (D0_ok hX) (fun n => (orL_ok (Z62.l4_ok hX n) noL_ok)) (fun n v K => by kernel_rfl)
def D1 (n : Nat) : CallF := orC 88 Z62.a (Z62.u n) (D0 n)
theorem D1_ok : ∀ n g a K, D1 n g a K -> callM C X0 n g a K := fun n => orC_ok (Z62_ok hX n) (D0_ok hX n)
abbrev Z66.a : List TS := [.a [.o (.int .i64), .o (.int .i64), .o (.int .i64), .o (.dat 155 (.int .u64))], .a [.o (.int .i64), .o (.int .i64), .o (.int .i64), .o (.dat 155 (.int .u64))]]
def Z66.u (n : Nat) (v : VA Z66.a) (K : RES -> Prop) : Prop := Z66.c n v.1.1 v.1.2.1 v.1.2.2.1 v.1.2.2.2.1 v.2.1.1 v.2.1.2.1 v.2.1.2.2.1 v.2.1.2.2.2.1 (fun r0 => K ⟨.c (.bool r0), []⟩)
theorem Z66_ok : ∀ n v K, Z66.u n v K -> callM C X0 n 154 (fillA Z66.a v) K :=
 call_tell hX (fn := Try.f154) (c := bodyOf Try.f154) (by kernel_rfl) (by kernel_rfl) (A := Z66.a) (u := Z66.u) (fun _ _ h => h) (call := D1) (lp := fun n => noL) (D1_ok hX) (fun n => noL_ok) (fun n v K => by kernel_rfl)
def D2 (n : Nat) : CallF := orC 154 Z66.a (Z66.u n) (D1 n)
theorem D2_ok : ∀ n g a K, D2 n g a K -> callM C X0 n g a K := fun n => orC_ok (Z66_ok hX n) (D1_ok hX n)
abbrev Z64.a : List TS := [.a [.o (.int .i64), .o (.dat 155 (.int .u64))]]
def Z64.u (n : Nat) (v : VA Z64.a) (K : RES -> Prop) : Prop := Z64.c n v.1.1 v.1.2.1 (fun r0 r1 => K ⟨.agg [.int .i64 r0, .row ⟨155, .int .u64, r1, 99, none⟩], []⟩)
theorem Z64_ok : ∀ n v K, Z64.u n v K -> callM C X0 n 115 (fillA Z64.a v) K :=
 call_tell hX (fn := Try.f115) (c := bodyOf Try.f115) (by kernel_rfl) (by kernel_rfl) (A := Z64.a) (u := Z64.u) (fun _ _ h => h) (call := D2) (lp := fun n => noL) (D2_ok hX) (fun n => noL_ok) (fun n v K => by kernel_rfl)
def D3 (n : Nat) : CallF := orC 115 Z64.a (Z64.u n) (D2 n)
theorem D3_ok : ∀ n g a K, D3 n g a K -> callM C X0 n g a K := fun n => orC_ok (Z64_ok hX n) (D2_ok hX n)
abbrev Z65.a : List TS := [.c (.o (.row 123 Y15 99)), .a [.o (.int .i64), .o (.int .i64), .o (.int .i64), .o (.dat 155 (.int .u64))]]
def Z65.u (n : Nat) (v : VA Z65.a) (K : RES -> Prop) : Prop := Z65.c n v.1 v.2.1.1 v.2.1.2.1 v.2.1.2.2.1 v.2.1.2.2.2.1 (fun r0 => K ⟨.c (.row ⟨123, .prod (.int .i64) Y18, r0, 99, none⟩), []⟩)
abbrev Z65.l2.s : ST := ⟨[(0, .c (.o (.own 0))), (3, .c (.o (.pbox 3 0))), (5, .c (.o (.int .i64)))], [⟨0, 123, .prod (.int .i64) Y18, 99⟩], [⟨3, 123, [.o (.int .i64), .o (.int .i64), .o (.int .i64), .o (.dat 155 (.int .u64))], false⟩], [], []⟩
def Z65.l2.u (n : Nat) (v : Z65.l2.s.V) (K : X -> St -> Prop) : Prop := Z65.l2 n v.2.1.1 v.2.2.1.1 v.2.2.1.2.1 v.2.2.1.2.2.1 v.2.2.1.2.2.2.1 v.1.2.2.1 (fun y0 y1 y2 y3 y4 => K (.exit 0) ⟨[(0, .c (.own 0)), (3, .c (.pbox 3 0))], [(0, ⟨123, .prod (.int .i64) Y18, y0, 99, none⟩)], [(3, ⟨123, [.int .i64 y1, .int .i64 y2, .int .i64 y3, .dat 155 (.int .u64) y4], false⟩)], [], []⟩) (fun y0 => K .ret ⟨[(4, .c (.own 0))], [(0, ⟨123, .prod (.int .i64) Y18, y0, 99, none⟩)], [], [], []⟩)
theorem Z65.l2_ok : ∀ n v K, Z65.l2.u n v K -> loopM C X0 n 77 2 (Z65.l2.s.fill v) K :=
 loop_tell hX (fn := Try.f77) (c := bodyOf Try.f77) (a := loopOf Try.f77 2) (li := liOf (C.fi 77).loops 2) (by kernel_rfl) (by kernel_rfl) (of_decide_eq_true rfl) (by kernel_rfl) (by kernel_rfl) (T := Z65.l2.s) (u := Z65.l2.u) (fun _ _ h => h) (call := D3) (lp := fun n => noL) (D3_ok hX) (fun n => noL_ok) (fun n v K => by kernel_rfl)
theorem Z65_ok : ∀ n v K, Z65.u n v K -> callM C X0 n 77 (fillA Z65.a v) K :=
 call_tell hX (fn := Try.f77) (c := bodyOf Try.f77) (by kernel_rfl) (by kernel_rfl) (A := Z65.a) (u := Z65.u) (fun _ _ h => h) (call := D3) (lp := fun n => orL 2 Z65.l2.s (Z65.l2.u n) noL) (D3_ok hX) (fun n => (orL_ok (Z65.l2_ok hX n) noL_ok)) (fun n v K => by kernel_rfl)
def D4 (n : Nat) : CallF := orC 77 Z65.a (Z65.u n) (D3 n)
theorem D4_ok : ∀ n g a K, D4 n g a K -> callM C X0 n g a K := fun n => orC_ok (Z65_ok hX n) (D3_ok hX n)
abbrev Z31.a : List TS := [.c (.o (.dat 155 (.int .u64))), .c (.o (.dat 155 (.int .u64)))]
def Z31.u (n : Nat) (v : VA Z31.a) (K : RES -> Prop) : Prop := Z31.c n v.1 v.2.1 (fun r0 => K ⟨.c (.bool r0), []⟩)
abbrev Z31.l4.s : ST := ⟨[(0, .c (.o (.dat 155 (.int .u64)))), (1, .c (.o (.dat 155 (.int .u64)))), (12, .c (.o (.int .i64))), (13, .c (.o (.int .i64)))], [], [], [], []⟩
def Z31.l4.u (n : Nat) (v : Z31.l4.s.V) (K : X -> St -> Prop) : Prop := Z31.l4 n v.1.1 v.1.2.1 v.1.2.2.1 v.1.2.2.2.1 (K (.exit 0) ⟨[], [], [], [], []⟩) (fun y0 => K .ret ⟨[(4, .c (.bool y0))], [], [], [], []⟩)
theorem Z31.l4_ok : ∀ n v K, Z31.l4.u n v K -> loopM C X0 n 166 4 (Z31.l4.s.fill v) K :=
 loop_tell hX (fn := Try.f166) (c := bodyOf Try.f166) (a := loopOf Try.f166 4) (li := liOf (C.fi 166).loops 4) (by kernel_rfl) (by kernel_rfl) (of_decide_eq_true rfl) (by kernel_rfl) (by kernel_rfl) (T := Z31.l4.s) (u := Z31.l4.u) (fun _ _ h => h) (call := D4) (lp := fun n => noL) (D4_ok hX) (fun n => noL_ok) (fun n v K => by kernel_rfl)
theorem Z31_ok : ∀ n v K, Z31.u n v K -> callM C X0 n 166 (fillA Z31.a v) K :=
 call_tell hX (fn := Try.f166) (c := bodyOf Try.f166) (by kernel_rfl) (by kernel_rfl) (A := Z31.a) (u := Z31.u) (fun _ _ h => h) (call := D4) (lp := fun n => orL 4 Z31.l4.s (Z31.l4.u n) noL) (D4_ok hX) (fun n => (orL_ok (Z31.l4_ok hX n) noL_ok)) (fun n v K => by kernel_rfl)
def D5 (n : Nat) : CallF := orC 166 Z31.a (Z31.u n) (D4 n)
theorem D5_ok : ∀ n g a K, D5 n g a K -> callM C X0 n g a K := fun n => orC_ok (Z31_ok hX n) (D4_ok hX n)
abbrev Z2.a : List TS := [.a [.o (.int .i64), .o (.dat 155 (.int .u64))], .a [.o (.int .i64), .o (.dat 155 (.int .u64))]]
def Z2.u (n : Nat) (v : VA Z2.a) (K : RES -> Prop) : Prop := Z2.c n v.1.1 v.1.2.1 v.2.1.1 v.2.1.2.1 (fun r0 => K ⟨.c (.bool r0), []⟩)
theorem Z2_ok : ∀ n v K, Z2.u n v K -> callM C X0 n 96 (fillA Z2.a v) K :=
 call_tell hX (fn := Try.f96) (c := bodyOf Try.f96) (by kernel_rfl) (by kernel_rfl) (A := Z2.a) (u := Z2.u) (fun _ _ h => h) (call := D5) (lp := fun n => noL) (D5_ok hX) (fun n => noL_ok) (fun n v K => by kernel_rfl)
def D6 (n : Nat) : CallF := orC 96 Z2.a (Z2.u n) (D5 n)
theorem D6_ok : ∀ n g a K, D6 n g a K -> callM C X0 n g a K := fun n => orC_ok (Z2_ok hX n) (D5_ok hX n)
abbrev Z25.a : List TS := [.c (.o (.dat 155 (.int .u64)))]
def Z25.u (n : Nat) (v : VA Z25.a) (K : RES -> Prop) : Prop := Z25.c n v.1 (fun r0 => K ⟨.c (.row ⟨155, .int .u64, r0, 99, none⟩), []⟩)
theorem Z25_ok : ∀ n v K, Z25.u n v K -> callM C X0 n 181 (fillA Z25.a v) K :=
 call_tell hX (fn := Try.f181) (c := bodyOf Try.f181) (by kernel_rfl) (by kernel_rfl) (A := Z25.a) (u := Z25.u) (fun _ _ h => h) (call := D6) (lp := fun n => noL) (D6_ok hX) (fun n => noL_ok) (fun n v K => by kernel_rfl)
def D7 (n : Nat) : CallF := orC 181 Z25.a (Z25.u n) (D6 n)
theorem D7_ok : ∀ n g a K, D7 n g a K -> callM C X0 n g a K := fun n => orC_ok (Z25_ok hX n) (D6_ok hX n)
abbrev Z11.a : List TS := [.a [.o (.int .i64), .o (.dat 155 (.int .u64))]]
def Z11.u (n : Nat) (v : VA Z11.a) (K : RES -> Prop) : Prop := Z11.c n v.1.1 v.1.2.1 (fun r0 r1 => K ⟨.agg [.int .i64 r0, .row ⟨155, .int .u64, r1, 99, none⟩], []⟩)
theorem Z11_ok : ∀ n v K, Z11.u n v K -> callM C X0 n 118 (fillA Z11.a v) K :=
 call_tell hX (fn := Try.f118) (c := bodyOf Try.f118) (by kernel_rfl) (by kernel_rfl) (A := Z11.a) (u := Z11.u) (fun _ _ h => h) (call := D7) (lp := fun n => noL) (D7_ok hX) (fun n => noL_ok) (fun n v K => by kernel_rfl)
def D8 (n : Nat) : CallF := orC 118 Z11.a (Z11.u n) (D7 n)
theorem D8_ok : ∀ n g a K, D8 n g a K -> callM C X0 n g a K := fun n => orC_ok (Z11_ok hX n) (D7_ok hX n)
abbrev Z49.a : List TS := [.c (.o (.int .i64)), .c (.o (.int .i64)), .c (.o (.int .i64))]
def Z49.u (n : Nat) (v : VA Z49.a) (K : RES -> Prop) : Prop := Z49.c n v.1 v.2.1 v.2.2.1 (fun r0 => K ⟨.c (.bool r0), []⟩)
theorem Z49_ok : ∀ n v K, Z49.u n v K -> callM C X0 n 103 (fillA Z49.a v) K :=
 call_tell hX (fn := Try.f103) (c := bodyOf Try.f103) (by kernel_rfl) (by kernel_rfl) (A := Z49.a) (u := Z49.u) (fun _ _ h => h) (call := D8) (lp := fun n => noL) (D8_ok hX) (fun n => noL_ok) (fun n v K => by kernel_rfl)
def D9 (n : Nat) : CallF := orC 103 Z49.a (Z49.u n) (D8 n)
theorem D9_ok : ∀ n g a K, D9 n g a K -> callM C X0 n g a K := fun n => orC_ok (Z49_ok hX n) (D8_ok hX n)
abbrev Z61.a : List TS := [.a [.o (.int .i64), .o (.dat 155 (.int .u64))]]
def Z61.u (n : Nat) (v : VA Z61.a) (K : RES -> Prop) : Prop := Z61.c n v.1.1 v.1.2.1 (fun r0 => K ⟨.c (.bool r0), []⟩)
theorem Z61_ok : ∀ n v K, Z61.u n v K -> callM C X0 n 121 (fillA Z61.a v) K :=
 call_tell hX (fn := Try.f121) (c := bodyOf Try.f121) (by kernel_rfl) (by kernel_rfl) (A := Z61.a) (u := Z61.u) (fun _ _ h => h) (call := D9) (lp := fun n => noL) (D9_ok hX) (fun n => noL_ok) (fun n v K => by kernel_rfl)
def D10 (n : Nat) : CallF := orC 121 Z61.a (Z61.u n) (D9 n)
theorem D10_ok : ∀ n g a K, D10 n g a K -> callM C X0 n g a K := fun n => orC_ok (Z61_ok hX n) (D9_ok hX n)
abbrev Z46.a : List TS := [.a [.o (.int .i64), .o (.dat 155 (.int .u64))], .c (.o (.int .i64))]
def Z46.u (n : Nat) (v : VA Z46.a) (K : RES -> Prop) : Prop := Z46.c n v.1.1 v.1.2.1 v.2.1 (fun r0 => K ⟨.c (.int .u8 r0), []⟩)
theorem Z46_ok : ∀ n v K, Z46.u n v K -> callM C X0 n 159 (fillA Z46.a v) K :=
 call_tell hX (fn := Try.f159) (c := bodyOf Try.f159) (by kernel_rfl) (by kernel_rfl) (A := Z46.a) (u := Z46.u) (fun _ _ h => h) (call := D10) (lp := fun n => noL) (D10_ok hX) (fun n => noL_ok) (fun n v K => by kernel_rfl)
def D11 (n : Nat) : CallF := orC 159 Z46.a (Z46.u n) (D10 n)
theorem D11_ok : ∀ n g a K, D11 n g a K -> callM C X0 n g a K := fun n => orC_ok (Z46_ok hX n) (D10_ok hX n)
abbrev Z38.a : List TS := [.a [.o (.int .i64), .o (.dat 155 (.int .u64))]]
def Z38.u (n : Nat) (v : VA Z38.a) (K : RES -> Prop) : Prop := Z38.c n v.1.1 v.1.2.1 (fun r0 => K ⟨.c (.bool r0), []⟩)
abbrev Z38.l4.s : ST := ⟨[(1, .c (.o (.pbox 1 0))), (3, .c (.o (.int .i64)))], [], [⟨1, 58, [.o (.int .i64), .o (.dat 155 (.int .u64))], false⟩], [], []⟩
def Z38.l4.u (n : Nat) (v : Z38.l4.s.V) (K : X -> St -> Prop) : Prop := Z38.l4 n v.2.2.1.1 v.2.2.1.2.1 v.1.2.1 (K (.exit 0) ⟨[], [], [], [], []⟩) (fun y0 => K .ret ⟨[(2, .c (.bool y0))], [], [], [], []⟩)
theorem Z38.l4_ok : ∀ n v K, Z38.l4.u n v K -> loopM C X0 n 87 4 (Z38.l4.s.fill v) K :=
 loop_tell hX (fn := Try.f87) (c := bodyOf Try.f87) (a := loopOf Try.f87 4) (li := liOf (C.fi 87).loops 4) (by kernel_rfl) (by kernel_rfl) (of_decide_eq_true rfl) (by kernel_rfl) (by kernel_rfl) (T := Z38.l4.s) (u := Z38.l4.u) (fun _ _ h => h) (call := D11) (lp := fun n => noL) (D11_ok hX) (fun n => noL_ok) (fun n v K => by kernel_rfl)
theorem Z38_ok : ∀ n v K, Z38.u n v K -> callM C X0 n 87 (fillA Z38.a v) K :=
 call_tell hX (fn := Try.f87) (c := bodyOf Try.f87) (by kernel_rfl) (by kernel_rfl) (A := Z38.a) (u := Z38.u) (fun _ _ h => h) (call := D11) (lp := fun n => orL 4 Z38.l4.s (Z38.l4.u n) noL) (D11_ok hX) (fun n => (orL_ok (Z38.l4_ok hX n) noL_ok)) (fun n v K => by kernel_rfl)
def D12 (n : Nat) : CallF := orC 87 Z38.a (Z38.u n) (D11 n)
theorem D12_ok : ∀ n g a K, D12 n g a K -> callM C X0 n g a K := fun n => orC_ok (Z38_ok hX n) (D11_ok hX n)
abbrev Z41.a : List TS := [.a [.o (.dat 2 (.int .i64)), .o (.dat 123 Y15)]]
def Z41.u (n : Nat) (v : VA Z41.a) (K : RES -> Prop) : Prop := Z41.c n v.1.1 v.1.2.1 (fun r0 => K ⟨.c (.bool r0), []⟩)
abbrev Z41.l5.s : ST := ⟨[(1, .c (.o (.pbox 1 0))), (3, .c (.o (.int .i64))), (4, .c (.o (.int .i64)))], [], [⟨1, 42, [.o (.dat 2 (.int .i64)), .o (.dat 123 Y15)], false⟩], [], []⟩
def Z41.l5.u (n : Nat) (v : Z41.l5.s.V) (K : X -> St -> Prop) : Prop := Z41.l5 n v.1.2.1 v.2.2.1.1 v.2.2.1.2.1 v.1.2.2.1 (fun y0 y1 y2 => K (.exit 0) ⟨[(1, .c (.pbox 1 0)), (3, .c (.int .i64 y0))], [], [(1, ⟨42, [.dat 2 (.int .i64) y1, .dat 123 Y15 y2], false⟩)], [], []⟩) (fun y0 => K .ret ⟨[(2, .c (.bool y0))], [], [], [], []⟩)
abbrev Z41.q14.s : ST := ⟨[(1, .c (.o (.pbox 1 0))), (3, .c (.o (.int .i64))), (5, .c (.o (.int .i64))), (6, .c (.o (.pbox 6 0))), (64, .c (.o .bool))], [], [⟨1, 42, [.o (.dat 2 (.int .i64)), .o (.dat 123 Y15)], false⟩, ⟨6, 123, [.o (.int .i64), .o (.int .i64), .o (.int .i64), .o (.dat 155 (.int .u64))], false⟩], [], []⟩
def Z41.q14.u (n : Nat) (v : Z41.q14.s.V) (K : X -> St -> Prop) : Prop := Z41.q14 n v.1.2.1 v.1.2.2.1 v.1.2.2.2.2.1 v.2.2.1.1 v.2.2.1.2.1 v.2.2.2.1.1 v.2.2.2.1.2.1 v.2.2.2.1.2.2.1 v.2.2.2.1.2.2.2.1 (fun y0 => K .ret ⟨[(2, .c (.bool y0))], [], [], [], []⟩) (fun y0 y1 y2 y3 y4 y5 y6 y7 => K .normal ⟨[(1, .c (.pbox 1 0)), (3, .c (.int .i64 y0)), (5, .c (.int .i64 y1)), (6, .c (.pbox 6 0))], [], [(1, ⟨42, [.dat 2 (.int .i64) y2, .dat 123 Y15 y3], false⟩), (6, ⟨123, [.int .i64 y4, .int .i64 y5, .int .i64 y6, .dat 155 (.int .u64) y7], false⟩)], [], []⟩)
abbrev Z41.q15.s : ST := ⟨[(1, .c (.o (.pbox 1 0))), (3, .c (.o (.int .i64))), (5, .c (.o (.int .i64))), (6, .c (.o (.pbox 6 0)))], [], [⟨1, 42, [.o (.dat 2 (.int .i64)), .o (.dat 123 Y15)], false⟩, ⟨6, 123, [.o (.int .i64), .o (.int .i64), .o (.int .i64), .o (.dat 155 (.int .u64))], false⟩], [], []⟩
def Z41.q15.u (n : Nat) (v : Z41.q15.s.V) (K : X -> St -> Prop) : Prop := Z41.q15 n v.1.2.1 v.1.2.2.1 v.2.2.1.1 v.2.2.1.2.1 v.2.2.2.1.1 v.2.2.2.1.2.1 v.2.2.2.1.2.2.1 v.2.2.2.1.2.2.2.1 (fun y0 => K .ret ⟨[(2, .c (.bool y0))], [], [], [], []⟩) (fun y0 y1 y2 y3 => K .normal ⟨[(1, .c (.pbox 1 0)), (3, .c (.int .i64 y0)), (5, .c (.int .i64 y1))], [], [(1, ⟨42, [.dat 2 (.int .i64) y2, .dat 123 Y15 y3], false⟩)], [], []⟩)
abbrev Z41.l10.s : ST := ⟨[(1, .c (.o (.pbox 1 0))), (3, .c (.o (.int .i64))), (5, .c (.o (.int .i64)))], [], [⟨1, 42, [.o (.dat 2 (.int .i64)), .o (.dat 123 Y15)], false⟩], [], []⟩
def Z41.l10.u (n : Nat) (v : Z41.l10.s.V) (K : X -> St -> Prop) : Prop := Z41.l10 n v.1.2.1 v.1.2.2.1 v.2.2.1.1 v.2.2.1.2.1 (K (.exit 2) ⟨[], [], [], [], []⟩) (fun y0 => K .ret ⟨[(2, .c (.bool y0))], [], [], [], []⟩)
theorem Z41.l5_ok : ∀ n v K, Z41.l5.u n v K -> loopM C X0 n 46 5 (Z41.l5.s.fill v) K :=
 loop_tell hX (fn := Try.f46) (c := bodyOf Try.f46) (a := loopOf Try.f46 5) (li := liOf (C.fi 46).loops 5) (by kernel_rfl) (by kernel_rfl) (of_decide_eq_true rfl) (by kernel_rfl) (by kernel_rfl) (T := Z41.l5.s) (u := Z41.l5.u) (fun _ _ h => h) (call := D12) (lp := fun n => noL) (D12_ok hX) (fun n => noL_ok) (fun n v K => by kernel_rfl)
theorem Z41.q14_ok : ∀ n v K, Z41.q14.u n v K -> loopM C X0 n 46 1000014 (Z41.q14.s.fill v) K :=
 cut_tell hX (fn := Try.f46) (c := bodyOf Try.f46) (a := cutOf Try.f46 14) (li := liOf (C.fi 46).loops 1000014) (by kernel_rfl) (by kernel_rfl) (of_decide_eq_true rfl) (by kernel_rfl) (by kernel_rfl) (T := Z41.q14.s) (u := Z41.q14.u) (fun _ _ h => h) (call := D12) (lp := fun n => noL) (D12_ok hX) (fun n => noL_ok) (fun n v K => by kernel_rfl)
theorem Z41.q15_ok : ∀ n v K, Z41.q15.u n v K -> loopM C X0 n 46 1000015 (Z41.q15.s.fill v) K :=
 cut_tell hX (fn := Try.f46) (c := bodyOf Try.f46) (a := cutOf Try.f46 15) (li := liOf (C.fi 46).loops 1000015) (by kernel_rfl) (by kernel_rfl) (of_decide_eq_true rfl) (by kernel_rfl) (by kernel_rfl) (T := Z41.q15.s) (u := Z41.q15.u) (fun _ _ h => h) (call := D12) (lp := fun n => noL) (D12_ok hX) (fun n => noL_ok) (fun n v K => by kernel_rfl)
theorem Z41.l10_ok : ∀ n v K, Z41.l10.u n v K -> loopM C X0 n 46 10 (Z41.l10.s.fill v) K :=
 loop_tell hX (fn := Try.f46) (c := bodyOf Try.f46) (a := loopOf Try.f46 10) (li := liOf (C.fi 46).loops 10) (by kernel_rfl) (by kernel_rfl) (of_decide_eq_true rfl) (by kernel_rfl) (by kernel_rfl) (T := Z41.l10.s) (u := Z41.l10.u) (fun _ _ h => h) (call := D12) (lp := fun n => orL 1000014 Z41.q14.s (Z41.q14.u n) (orL 1000015 Z41.q15.s (Z41.q15.u n) noL)) (D12_ok hX) (fun n => (orL_ok (Z41.q14_ok hX n) (orL_ok (Z41.q15_ok hX n) noL_ok))) (fun n v K => by kernel_rfl)
theorem Z41_ok : ∀ n v K, Z41.u n v K -> callM C X0 n 46 (fillA Z41.a v) K :=
 call_tell hX (fn := Try.f46) (c := bodyOf Try.f46) (by kernel_rfl) (by kernel_rfl) (A := Z41.a) (u := Z41.u) (fun _ _ h => h) (call := D12) (lp := fun n => orL 5 Z41.l5.s (Z41.l5.u n) (orL 10 Z41.l10.s (Z41.l10.u n) noL)) (D12_ok hX) (fun n => (orL_ok (Z41.l5_ok hX n) (orL_ok (Z41.l10_ok hX n) noL_ok))) (fun n v K => by kernel_rfl)
def D13 (n : Nat) : CallF := orC 46 Z41.a (Z41.u n) (D12 n)
theorem D13_ok : ∀ n g a K, D13 n g a K -> callM C X0 n g a K := fun n => orC_ok (Z41_ok hX n) (D12_ok hX n)
abbrev Z13.a : List TS := [.c (.o (.int .i64)), .c (.o (.int .i64)), .c (.o (.int .i64))]
def Z13.u (n : Nat) (v : VA Z13.a) (K : RES -> Prop) : Prop := Z13.c n v.1 v.2.1 v.2.2.1 (fun r0 => K ⟨.c (.bool r0), []⟩)
theorem Z13_ok : ∀ n v K, Z13.u n v K -> callM C X0 n 108 (fillA Z13.a v) K :=
 call_tell hX (fn := Try.f108) (c := bodyOf Try.f108) (by kernel_rfl) (by kernel_rfl) (A := Z13.a) (u := Z13.u) (fun _ _ h => h) (call := D13) (lp := fun n => noL) (D13_ok hX) (fun n => noL_ok) (fun n v K => by kernel_rfl)
def D14 (n : Nat) : CallF := orC 108 Z13.a (Z13.u n) (D13 n)
theorem D14_ok : ∀ n g a K, D14 n g a K -> callM C X0 n g a K := fun n => orC_ok (Z13_ok hX n) (D13_ok hX n)
abbrev Z21.a : List TS := [.c (.o (.int .i64))]
def Z21.u (n : Nat) (v : VA Z21.a) (K : RES -> Prop) : Prop := Z21.c n v.1 (fun r0 => K ⟨.c (.int .i64 r0), []⟩)
theorem Z21_ok : ∀ n v K, Z21.u n v K -> callM C X0 n 164 (fillA Z21.a v) K :=
 call_tell hX (fn := Try.f164) (c := bodyOf Try.f164) (by kernel_rfl) (by kernel_rfl) (A := Z21.a) (u := Z21.u) (fun _ _ h => h) (call := D14) (lp := fun n => noL) (D14_ok hX) (fun n => noL_ok) (fun n v K => by kernel_rfl)
def D15 (n : Nat) : CallF := orC 164 Z21.a (Z21.u n) (D14 n)
theorem D15_ok : ∀ n g a K, D15 n g a K -> callM C X0 n g a K := fun n => orC_ok (Z21_ok hX n) (D14_ok hX n)
abbrev Z1.a : List TS := [.a [.o (.int .i64), .o (.dat 155 (.int .u64))]]
def Z1.u (n : Nat) (v : VA Z1.a) (K : RES -> Prop) : Prop := Z1.c n v.1.1 v.1.2.1 (fun r0 => K ⟨.c (.bool r0), []⟩)
theorem Z1_ok : ∀ n v K, Z1.u n v K -> callM C X0 n 93 (fillA Z1.a v) K :=
 call_tell hX (fn := Try.f93) (c := bodyOf Try.f93) (by kernel_rfl) (by kernel_rfl) (A := Z1.a) (u := Z1.u) (fun _ _ h => h) (call := D15) (lp := fun n => noL) (D15_ok hX) (fun n => noL_ok) (fun n v K => by kernel_rfl)
def D16 (n : Nat) : CallF := orC 93 Z1.a (Z1.u n) (D15 n)
theorem D16_ok : ∀ n g a K, D16 n g a K -> callM C X0 n g a K := fun n => orC_ok (Z1_ok hX n) (D15_ok hX n)
abbrev Z10.a : List TS := [.c (.o (.dat 2 (.int .i64))), .a [.o (.int .i64), .o (.int .i64), .o (.int .i64), .o (.dat 155 (.int .u64))]]
def Z10.u (n : Nat) (v : VA Z10.a) (K : RES -> Prop) : Prop := Z10.c n v.1 v.2.1.1 v.2.1.2.1 v.2.1.2.2.1 v.2.1.2.2.2.1 (fun r0 => K ⟨.c (.bool r0), []⟩)
theorem Z10_ok : ∀ n v K, Z10.u n v K -> callM C X0 n 163 (fillA Z10.a v) K :=
 call_tell hX (fn := Try.f163) (c := bodyOf Try.f163) (by kernel_rfl) (by kernel_rfl) (A := Z10.a) (u := Z10.u) (fun _ _ h => h) (call := D16) (lp := fun n => noL) (D16_ok hX) (fun n => noL_ok) (fun n v K => by kernel_rfl)
def D17 (n : Nat) : CallF := orC 163 Z10.a (Z10.u n) (D16 n)
theorem D17_ok : ∀ n g a K, D17 n g a K -> callM C X0 n g a K := fun n => orC_ok (Z10_ok hX n) (D16_ok hX n)
abbrev Z8.a : List TS := [.a [.o (.int .i64), .o (.int .i64), .o (.int .i64), .o (.dat 155 (.int .u64))], .c (.o (.pdat 42 Y13 0))]
def Z8.u (n : Nat) (v : VA Z8.a) (K : RES -> Prop) : Prop := Z8.c n v.1.1 v.1.2.1 v.1.2.2.1 v.1.2.2.2.1 v.2.1 (fun r0 => K ⟨.c (.bool r0), []⟩)
theorem Z8_ok : ∀ n v K, Z8.u n v K -> callM C X0 n 162 (fillA Z8.a v) K :=
 call_tell hX (fn := Try.f162) (c := bodyOf Try.f162) (by kernel_rfl) (by kernel_rfl) (A := Z8.a) (u := Z8.u) (fun _ _ h => h) (call := D17) (lp := fun n => noL) (D17_ok hX) (fun n => noL_ok) (fun n v K => by kernel_rfl)
def D18 (n : Nat) : CallF := orC 162 Z8.a (Z8.u n) (D17 n)
theorem D18_ok : ∀ n g a K, D18 n g a K -> callM C X0 n g a K := fun n => orC_ok (Z8_ok hX n) (D17_ok hX n)
abbrev Z33.a : List TS := [.c (.o (.dat 123 Y15)), .c (.fn 162 [(false, 1)] 0 [.pdat 42 Y13 0])]
def Z33.u (n : Nat) (v : VA Z33.a) (K : RES -> Prop) : Prop := Z33.c n v.1 v.2.1.1 (fun r0 => K ⟨.c (.int .i64 r0), []⟩)
abbrev Z33.l2.s : ST := ⟨[(0, .c (.o (.dat 123 Y15))), (1, .c (.fn 162 [(false, 1)] 0 [.pdat 42 Y13 0])), (7, .c (.o (.int .i64))), (8, .c (.o (.int .i64)))], [], [], [], []⟩
def Z33.l2.u (n : Nat) (v : Z33.l2.s.V) (K : X -> St -> Prop) : Prop := Z33.l2 n v.1.1 v.1.2.1.1 v.1.2.2.1 v.1.2.2.2.1 (K (.exit 0) ⟨[], [], [], [], []⟩) (fun y0 => K .ret ⟨[(4, .c (.int .i64 y0))], [], [], [], []⟩)
theorem Z33.l2_ok : ∀ n v K, Z33.l2.u n v K -> loopM C X0 n 165 2 (Z33.l2.s.fill v) K :=
 loop_tell hX (fn := Try.f165) (c := bodyOf Try.f165) (a := loopOf Try.f165 2) (li := liOf (C.fi 165).loops 2) (by kernel_rfl) (by kernel_rfl) (of_decide_eq_true rfl) (by kernel_rfl) (by kernel_rfl) (T := Z33.l2.s) (u := Z33.l2.u) (fun _ _ h => h) (call := D18) (lp := fun n => noL) (D18_ok hX) (fun n => noL_ok) (fun n v K => by kernel_rfl)
theorem Z33_ok : ∀ n v K, Z33.u n v K -> callM C X0 n 165 (fillA Z33.a v) K :=
 call_tell hX (fn := Try.f165) (c := bodyOf Try.f165) (by kernel_rfl) (by kernel_rfl) (A := Z33.a) (u := Z33.u) (fun _ _ h => h) (call := D18) (lp := fun n => orL 2 Z33.l2.s (Z33.l2.u n) noL) (D18_ok hX) (fun n => (orL_ok (Z33.l2_ok hX n) noL_ok)) (fun n v K => by kernel_rfl)
def D19 (n : Nat) : CallF := orC 165 Z33.a (Z33.u n) (D18 n)
theorem D19_ok : ∀ n g a K, D19 n g a K -> callM C X0 n g a K := fun n => orC_ok (Z33_ok hX n) (D18_ok hX n)
abbrev Z27.a : List TS := [.c (.o (.dat 123 Y15)), .c (.fn 162 [(false, 1)] 0 [.pdat 42 Y13 0])]
def Z27.u (n : Nat) (v : VA Z27.a) (K : RES -> Prop) : Prop := Z27.c n v.1 v.2.1.1 (fun r0 => K ⟨.c (.bool r0), []⟩)
theorem Z27_ok : ∀ n v K, Z27.u n v K -> callM C X0 n 94 (fillA Z27.a v) K :=
 call_tell hX (fn := Try.f94) (c := bodyOf Try.f94) (by kernel_rfl) (by kernel_rfl) (A := Z27.a) (u := Z27.u) (fun _ _ h => h) (call := D19) (lp := fun n => noL) (D19_ok hX) (fun n => noL_ok) (fun n v K => by kernel_rfl)
def D20 (n : Nat) : CallF := orC 94 Z27.a (Z27.u n) (D19 n)
theorem D20_ok : ∀ n g a K, D20 n g a K -> callM C X0 n g a K := fun n => orC_ok (Z27_ok hX n) (D19_ok hX n)
abbrev Z7.a : List TS := [.a [.o (.dat 2 (.int .i64)), .o (.dat 123 Y15)]]
def Z7.u (n : Nat) (v : VA Z7.a) (K : RES -> Prop) : Prop := Z7.c n v.1.1 v.1.2.1 (fun r0 => K ⟨.c (.bool r0), []⟩)
abbrev Z7.l4.s : ST := ⟨[(1, .c (.o (.pbox 1 0))), (16, .c (.o (.dat 2 (.int .i64)))), (17, .c (.o (.int .i64))), (18, .c (.o (.int .i64)))], [], [⟨1, 42, [.o (.dat 2 (.int .i64)), .o (.dat 123 Y15)], false⟩], [], []⟩
def Z7.l4.u (n : Nat) (v : Z7.l4.s.V) (K : X -> St -> Prop) : Prop := Z7.l4 n v.1.2.1 v.1.2.2.1 v.2.2.1.1 v.2.2.1.2.1 v.1.2.2.2.1 (fun y0 y1 => K (.exit 0) ⟨[(1, .c (.pbox 1 0))], [], [(1, ⟨42, [.dat 2 (.int .i64) y0, .dat 123 Y15 y1], false⟩)], [], []⟩) (fun y0 => K .ret ⟨[(2, .c (.bool y0))], [], [], [], []⟩)
theorem Z7.l4_ok : ∀ n v K, Z7.l4.u n v K -> loopM C X0 n 92 4 (Z7.l4.s.fill v) K :=
 loop_tell hX (fn := Try.f92) (c := bodyOf Try.f92) (a := loopOf Try.f92 4) (li := liOf (C.fi 92).loops 4) (by kernel_rfl) (by kernel_rfl) (of_decide_eq_true rfl) (by kernel_rfl) (by kernel_rfl) (T := Z7.l4.s) (u := Z7.l4.u) (fun _ _ h => h) (call := D20) (lp := fun n => noL) (D20_ok hX) (fun n => noL_ok) (fun n v K => by kernel_rfl)
theorem Z7_ok : ∀ n v K, Z7.u n v K -> callM C X0 n 92 (fillA Z7.a v) K :=
 call_tell hX (fn := Try.f92) (c := bodyOf Try.f92) (by kernel_rfl) (by kernel_rfl) (A := Z7.a) (u := Z7.u) (fun _ _ h => h) (call := D20) (lp := fun n => orL 4 Z7.l4.s (Z7.l4.u n) noL) (D20_ok hX) (fun n => (orL_ok (Z7.l4_ok hX n) noL_ok)) (fun n v K => by kernel_rfl)
def D21 (n : Nat) : CallF := orC 92 Z7.a (Z7.u n) (D20 n)
theorem D21_ok : ∀ n g a K, D21 n g a K -> callM C X0 n g a K := fun n => orC_ok (Z7_ok hX n) (D20_ok hX n)
abbrev Z5.a : List TS := [.a [.o (.int .i64), .o (.int .i64), .o (.int .i64), .o (.dat 155 (.int .u64))], .c (.o (.pdat 44 (.sl 58 Y19) 0))]
def Z5.u (n : Nat) (v : VA Z5.a) (K : RES -> Prop) : Prop := Z5.c n v.1.1 v.1.2.1 v.1.2.2.1 v.1.2.2.2.1 v.2.1 (fun r0 => K ⟨.c (.bool r0), []⟩)
theorem Z5_ok : ∀ n v K, Z5.u n v K -> callM C X0 n 95 (fillA Z5.a v) K :=
 call_tell hX (fn := Try.f95) (c := bodyOf Try.f95) (by kernel_rfl) (by kernel_rfl) (A := Z5.a) (u := Z5.u) (fun _ _ h => h) (call := D21) (lp := fun n => noL) (D21_ok hX) (fun n => noL_ok) (fun n v K => by kernel_rfl)
def D22 (n : Nat) : CallF := orC 95 Z5.a (Z5.u n) (D21 n)
theorem D22_ok : ∀ n g a K, D22 n g a K -> callM C X0 n g a K := fun n => orC_ok (Z5_ok hX n) (D21_ok hX n)
abbrev Z32.a : List TS := [.c (.o (.dat 123 Y15)), .c (.fn 95 [(false, 1)] 0 [.pdat 44 (.sl 58 Y19) 0])]
def Z32.u (n : Nat) (v : VA Z32.a) (K : RES -> Prop) : Prop := Z32.c n v.1 v.2.1.1 (fun r0 => K ⟨.c (.int .i64 r0), []⟩)
abbrev Z32.l2.s : ST := ⟨[(0, .c (.o (.dat 123 Y15))), (1, .c (.fn 95 [(false, 1)] 0 [.pdat 44 (.sl 58 Y19) 0])), (7, .c (.o (.int .i64))), (8, .c (.o (.int .i64)))], [], [], [], []⟩
def Z32.l2.u (n : Nat) (v : Z32.l2.s.V) (K : X -> St -> Prop) : Prop := Z32.l2 n v.1.1 v.1.2.1.1 v.1.2.2.1 v.1.2.2.2.1 (K (.exit 0) ⟨[], [], [], [], []⟩) (fun y0 => K .ret ⟨[(4, .c (.int .i64 y0))], [], [], [], []⟩)
theorem Z32.l2_ok : ∀ n v K, Z32.l2.u n v K -> loopM C X0 n 165 2 (Z32.l2.s.fill v) K :=
 loop_tell hX (fn := Try.f165) (c := bodyOf Try.f165) (a := loopOf Try.f165 2) (li := liOf (C.fi 165).loops 2) (by kernel_rfl) (by kernel_rfl) (of_decide_eq_true rfl) (by kernel_rfl) (by kernel_rfl) (T := Z32.l2.s) (u := Z32.l2.u) (fun _ _ h => h) (call := D22) (lp := fun n => noL) (D22_ok hX) (fun n => noL_ok) (fun n v K => by kernel_rfl)
theorem Z32_ok : ∀ n v K, Z32.u n v K -> callM C X0 n 165 (fillA Z32.a v) K :=
 call_tell hX (fn := Try.f165) (c := bodyOf Try.f165) (by kernel_rfl) (by kernel_rfl) (A := Z32.a) (u := Z32.u) (fun _ _ h => h) (call := D22) (lp := fun n => orL 2 Z32.l2.s (Z32.l2.u n) noL) (D22_ok hX) (fun n => (orL_ok (Z32.l2_ok hX n) noL_ok)) (fun n v K => by kernel_rfl)
def D23 (n : Nat) : CallF := orC 165 Z32.a (Z32.u n) (D22 n)
theorem D23_ok : ∀ n g a K, D23 n g a K -> callM C X0 n g a K := fun n => orC_ok (Z32_ok hX n) (D22_ok hX n)
abbrev Z26.a : List TS := [.c (.o (.dat 123 Y15)), .c (.fn 95 [(false, 1)] 0 [.pdat 44 (.sl 58 Y19) 0])]
def Z26.u (n : Nat) (v : VA Z26.a) (K : RES -> Prop) : Prop := Z26.c n v.1 v.2.1.1 (fun r0 => K ⟨.c (.bool r0), []⟩)
theorem Z26_ok : ∀ n v K, Z26.u n v K -> callM C X0 n 94 (fillA Z26.a v) K :=
 call_tell hX (fn := Try.f94) (c := bodyOf Try.f94) (by kernel_rfl) (by kernel_rfl) (A := Z26.a) (u := Z26.u) (fun _ _ h => h) (call := D23) (lp := fun n => noL) (D23_ok hX) (fun n => noL_ok) (fun n v K => by kernel_rfl)
def D24 (n : Nat) : CallF := orC 94 Z26.a (Z26.u n) (D23 n)
theorem D24_ok : ∀ n g a K, D24 n g a K -> callM C X0 n g a K := fun n => orC_ok (Z26_ok hX n) (D23_ok hX n)
abbrev Z4.a : List TS := [.a [.o (.dat 2 (.int .i64)), .o (.dat 123 Y15)], .c (.o (.dat 58 Y19))]
def Z4.u (n : Nat) (v : VA Z4.a) (K : RES -> Prop) : Prop := Z4.c n v.1.1 v.1.2.1 v.2.1 (fun r0 => K ⟨.c (.bool r0), []⟩)
abbrev Z4.l4.s : ST := ⟨[(2, .c (.o (.pbox 2 0))), (3, .c (.o (.pbox 3 0))), (18, .c (.o (.dat 58 Y19))), (19, .c (.o (.int .i64))), (20, .c (.o (.int .i64)))], [], [⟨2, 42, [.o (.dat 2 (.int .i64)), .o (.dat 123 Y15)], false⟩, ⟨3, 44, [.o (.dat 58 Y19)], false⟩], [], []⟩
def Z4.l4.u (n : Nat) (v : Z4.l4.s.V) (K : X -> St -> Prop) : Prop := Z4.l4 n v.1.2.2.1 v.1.2.2.2.1 v.2.2.1.1 v.2.2.1.2.1 v.2.2.2.1.1 v.1.2.2.2.2.1 (fun y0 y1 y2 => K (.exit 0) ⟨[(2, .c (.pbox 2 0)), (3, .c (.pbox 3 0))], [], [(2, ⟨42, [.dat 2 (.int .i64) y0, .dat 123 Y15 y1], false⟩), (3, ⟨44, [.dat 58 Y19 y2], false⟩)], [], []⟩) (fun y0 => K .ret ⟨[(4, .c (.bool y0))], [], [], [], []⟩)
theorem Z4.l4_ok : ∀ n v K, Z4.l4.u n v K -> loopM C X0 n 29 4 (Z4.l4.s.fill v) K :=
 loop_tell hX (fn := Try.f29) (c := bodyOf Try.f29) (a := loopOf Try.f29 4) (li := liOf (C.fi 29).loops 4) (by kernel_rfl) (by kernel_rfl) (of_decide_eq_true rfl) (by kernel_rfl) (by kernel_rfl) (T := Z4.l4.s) (u := Z4.l4.u) (fun _ _ h => h) (call := D24) (lp := fun n => noL) (D24_ok hX) (fun n => noL_ok) (fun n v K => by kernel_rfl)
theorem Z4_ok : ∀ n v K, Z4.u n v K -> callM C X0 n 29 (fillA Z4.a v) K :=
 call_tell hX (fn := Try.f29) (c := bodyOf Try.f29) (by kernel_rfl) (by kernel_rfl) (A := Z4.a) (u := Z4.u) (fun _ _ h => h) (call := D24) (lp := fun n => orL 4 Z4.l4.s (Z4.l4.u n) noL) (D24_ok hX) (fun n => (orL_ok (Z4.l4_ok hX n) noL_ok)) (fun n v K => by kernel_rfl)
def D25 (n : Nat) : CallF := orC 29 Z4.a (Z4.u n) (D24 n)
theorem D25_ok : ∀ n g a K, D25 n g a K -> callM C X0 n g a K := fun n => orC_ok (Z4_ok hX n) (D24_ok hX n)
abbrev Z48.a : List TS := [.c (.o (.dat 2 (.int .i64))), .c (.o (.int .i64))]
def Z48.u (n : Nat) (v : VA Z48.a) (K : RES -> Prop) : Prop := Z48.c n v.1 v.2.1 (fun r0 => K ⟨.c (.bool r0), []⟩)
abbrev Z48.l2.s : ST := ⟨[(0, .c (.o (.dat 2 (.int .i64)))), (1, .c (.o (.int .i64))), (5, .c (.o (.int .i64)))], [], [], [], []⟩
def Z48.l2.u (n : Nat) (v : Z48.l2.s.V) (K : X -> St -> Prop) : Prop := Z48.l2 n v.1.1 v.1.2.1 v.1.2.2.1 (K (.exit 0) ⟨[], [], [], [], []⟩) (fun y0 => K .ret ⟨[(4, .c (.bool y0))], [], [], [], []⟩)
theorem Z48.l2_ok : ∀ n v K, Z48.l2.u n v K -> loopM C X0 n 114 2 (Z48.l2.s.fill v) K :=
 loop_tell hX (fn := Try.f114) (c := bodyOf Try.f114) (a := loopOf Try.f114 2) (li := liOf (C.fi 114).loops 2) (by kernel_rfl) (by kernel_rfl) (of_decide_eq_true rfl) (by kernel_rfl) (by kernel_rfl) (T := Z48.l2.s) (u := Z48.l2.u) (fun _ _ h => h) (call := D25) (lp := fun n => noL) (D25_ok hX) (fun n => noL_ok) (fun n v K => by kernel_rfl)
theorem Z48_ok : ∀ n v K, Z48.u n v K -> callM C X0 n 114 (fillA Z48.a v) K :=
 call_tell hX (fn := Try.f114) (c := bodyOf Try.f114) (by kernel_rfl) (by kernel_rfl) (A := Z48.a) (u := Z48.u) (fun _ _ h => h) (call := D25) (lp := fun n => orL 2 Z48.l2.s (Z48.l2.u n) noL) (D25_ok hX) (fun n => (orL_ok (Z48.l2_ok hX n) noL_ok)) (fun n v K => by kernel_rfl)
def D26 (n : Nat) : CallF := orC 114 Z48.a (Z48.u n) (D25 n)
theorem D26_ok : ∀ n g a K, D26 n g a K -> callM C X0 n g a K := fun n => orC_ok (Z48_ok hX n) (D25_ok hX n)
abbrev Z63.a : List TS := [.c (.o (.dat 2 (.int .i64)))]
def Z63.u (n : Nat) (v : VA Z63.a) (K : RES -> Prop) : Prop := Z63.c n v.1 (fun r0 => K ⟨.c (.row ⟨2, .int .i64, r0, 99, none⟩), []⟩)
abbrev Z63.l8.s : ST := ⟨[(0, .c (.o (.dat 2 (.int .i64)))), (3, .c (.o (.own 864))), (4, .c (.o (.int .i64))), (5, .c (.o (.int .i64)))], [⟨864, 2, .int .i64, 99⟩], [], [], []⟩
def Z63.l8.u (n : Nat) (v : Z63.l8.s.V) (K : X -> St -> Prop) : Prop := Z63.l8 n v.1.1 v.1.2.2.1 v.1.2.2.2.1 v.2.1.1 (fun y0 y1 y2 y3 => K (.exit 2) ⟨[(0, .c (.dat 2 (.int .i64) y0)), (3, .c (.own 864)), (4, .c (.int .i64 y1)), (5, .c (.int .i64 y2))], [(864, ⟨2, .int .i64, y3, 99, none⟩)], [], [], []⟩)
abbrev Z63.l3.s : ST := ⟨[(0, .c (.o (.dat 2 (.int .i64)))), (3, .c (.o (.own 96))), (4, .c (.o (.int .i64)))], [⟨96, 2, .int .i64, 99⟩], [], [], []⟩
def Z63.l3.u (n : Nat) (v : Z63.l3.s.V) (K : X -> St -> Prop) : Prop := Z63.l3 n v.1.1 v.1.2.2.1 v.2.1.1 (fun y0 => K (.exit 0) ⟨[(3, .c (.own 96))], [(96, ⟨2, .int .i64, y0, 99, none⟩)], [], [], []⟩)
theorem Z63.l8_ok : ∀ n v K, Z63.l8.u n v K -> loopM C X0 n 172 8 (Z63.l8.s.fill v) K :=
 loop_tell hX (fn := Try.f172) (c := bodyOf Try.f172) (a := loopOf Try.f172 8) (li := liOf (C.fi 172).loops 8) (by kernel_rfl) (by kernel_rfl) (of_decide_eq_true rfl) (by kernel_rfl) (by kernel_rfl) (T := Z63.l8.s) (u := Z63.l8.u) (fun _ _ h => h) (call := D26) (lp := fun n => noL) (D26_ok hX) (fun n => noL_ok) (fun n v K => by kernel_rfl)
theorem Z63.l3_ok : ∀ n v K, Z63.l3.u n v K -> loopM C X0 n 172 3 (Z63.l3.s.fill v) K :=
 loop_tell hX (fn := Try.f172) (c := bodyOf Try.f172) (a := loopOf Try.f172 3) (li := liOf (C.fi 172).loops 3) (by kernel_rfl) (by kernel_rfl) (of_decide_eq_true rfl) (by kernel_rfl) (by kernel_rfl) (T := Z63.l3.s) (u := Z63.l3.u) (fun _ _ h => h) (call := D26) (lp := fun n => orL 8 Z63.l8.s (Z63.l8.u n) noL) (D26_ok hX) (fun n => (orL_ok (Z63.l8_ok hX n) noL_ok)) (fun n v K => by kernel_rfl)
theorem Z63_ok : ∀ n v K, Z63.u n v K -> callM C X0 n 172 (fillA Z63.a v) K :=
 call_tell hX (fn := Try.f172) (c := bodyOf Try.f172) (by kernel_rfl) (by kernel_rfl) (A := Z63.a) (u := Z63.u) (fun _ _ h => h) (call := D26) (lp := fun n => orL 3 Z63.l3.s (Z63.l3.u n) noL) (D26_ok hX) (fun n => (orL_ok (Z63.l3_ok hX n) noL_ok)) (fun n v K => by kernel_rfl)
def D27 (n : Nat) : CallF := orC 172 Z63.a (Z63.u n) (D26 n)
theorem D27_ok : ∀ n g a K, D27 n g a K -> callM C X0 n g a K := fun n => orC_ok (Z63_ok hX n) (D26_ok hX n)
abbrev Z43.a : List TS := [.a [.o (.dat 2 (.int .i64)), .o (.dat 123 Y15)], .c (.o (.int .i64))]
def Z43.u (n : Nat) (v : VA Z43.a) (K : RES -> Prop) : Prop := Z43.c n v.1.1 v.1.2.1 v.2.1 (fun r0 => K ⟨.c (.int .i64 r0), []⟩)
abbrev Z43.l4.s : ST := ⟨[(1, .c (.o (.int .i64))), (2, .c (.o (.pbox 2 0))), (5, .c (.o (.own 160))), (6, .c (.o (.own 192))), (7, .c (.o (.int .i64)))], [⟨160, 2, .int .i64, 99⟩, ⟨192, 123, .prod (.int .i64) Y18, 99⟩], [⟨2, 42, [.o (.dat 2 (.int .i64)), .o (.dat 123 Y15)], false⟩], [], []⟩
def Z43.l4.u (n : Nat) (v : Z43.l4.s.V) (K : X -> St -> Prop) : Prop := Z43.l4 n v.1.1 v.2.2.1.1 v.2.2.1.2.1 v.1.2.2.2.2.1 v.2.1.1 v.2.1.2.1 (fun y0 y1 => K (.exit 0) ⟨[(5, .c (.own 160)), (6, .c (.own 192))], [(160, ⟨2, .int .i64, y0, 99, none⟩), (192, ⟨123, .prod (.int .i64) Y18, y1, 99, none⟩)], [], [], []⟩)
theorem Z43.l4_ok : ∀ n v K, Z43.l4.u n v K -> loopM C X0 n 104 4 (Z43.l4.s.fill v) K :=
 loop_tell hX (fn := Try.f104) (c := bodyOf Try.f104) (a := loopOf Try.f104 4) (li := liOf (C.fi 104).loops 4) (by kernel_rfl) (by kernel_rfl) (of_decide_eq_true rfl) (by kernel_rfl) (by kernel_rfl) (T := Z43.l4.s) (u := Z43.l4.u) (fun _ _ h => h) (call := D27) (lp := fun n => noL) (D27_ok hX) (fun n => noL_ok) (fun n v K => by kernel_rfl)
theorem Z43_ok : ∀ n v K, Z43.u n v K -> callM C X0 n 104 (fillA Z43.a v) K :=
 call_tell hX (fn := Try.f104) (c := bodyOf Try.f104) (by kernel_rfl) (by kernel_rfl) (A := Z43.a) (u := Z43.u) (fun _ _ h => h) (call := D27) (lp := fun n => orL 4 Z43.l4.s (Z43.l4.u n) noL) (D27_ok hX) (fun n => (orL_ok (Z43.l4_ok hX n) noL_ok)) (fun n v K => by kernel_rfl)
def D28 (n : Nat) : CallF := orC 104 Z43.a (Z43.u n) (D27 n)
theorem D28_ok : ∀ n g a K, D28 n g a K -> callM C X0 n g a K := fun n => orC_ok (Z43_ok hX n) (D27_ok hX n)
abbrev Z36.a : List TS := [.c (.o (.dat 2 (.int .i64))), .c (.o (.int .i64))]
def Z36.u (n : Nat) (v : VA Z36.a) (K : RES -> Prop) : Prop := Z36.c n v.1 v.2.1 (fun r0 => K ⟨.c (.int .i64 r0), []⟩)
abbrev Z36.l2.s : ST := ⟨[(0, .c (.o (.dat 2 (.int .i64)))), (1, .c (.o (.int .i64))), (7, .c (.o (.int .i64))), (8, .c (.o (.int .i64)))], [], [], [], []⟩
def Z36.l2.u (n : Nat) (v : Z36.l2.s.V) (K : X -> St -> Prop) : Prop := Z36.l2 n v.1.1 v.1.2.1 v.1.2.2.1 v.1.2.2.2.1 (K (.exit 0) ⟨[], [], [], [], []⟩) (fun y0 => K .ret ⟨[(4, .c (.int .i64 y0))], [], [], [], []⟩)
theorem Z36.l2_ok : ∀ n v K, Z36.l2.u n v K -> loopM C X0 n 208 2 (Z36.l2.s.fill v) K :=
 loop_tell hX (fn := Try.f208) (c := bodyOf Try.f208) (a := loopOf Try.f208 2) (li := liOf (C.fi 208).loops 2) (by kernel_rfl) (by kernel_rfl) (of_decide_eq_true rfl) (by kernel_rfl) (by kernel_rfl) (T := Z36.l2.s) (u := Z36.l2.u) (fun _ _ h => h) (call := D28) (lp := fun n => noL) (D28_ok hX) (fun n => noL_ok) (fun n v K => by kernel_rfl)
theorem Z36_ok : ∀ n v K, Z36.u n v K -> callM C X0 n 208 (fillA Z36.a v) K :=
 call_tell hX (fn := Try.f208) (c := bodyOf Try.f208) (by kernel_rfl) (by kernel_rfl) (A := Z36.a) (u := Z36.u) (fun _ _ h => h) (call := D28) (lp := fun n => orL 2 Z36.l2.s (Z36.l2.u n) noL) (D28_ok hX) (fun n => (orL_ok (Z36.l2_ok hX n) noL_ok)) (fun n v K => by kernel_rfl)
def D29 (n : Nat) : CallF := orC 208 Z36.a (Z36.u n) (D28 n)
theorem D29_ok : ∀ n g a K, D29 n g a K -> callM C X0 n g a K := fun n => orC_ok (Z36_ok hX n) (D28_ok hX n)
abbrev Z30.a : List TS := [.c (.o (.dat 2 (.int .i64))), .c (.o (.int .i64))]
def Z30.u (n : Nat) (v : VA Z30.a) (K : RES -> Prop) : Prop := Z30.c n v.1 v.2.1 (fun r0 => K ⟨.c (.bool r0), []⟩)
theorem Z30_ok : ∀ n v K, Z30.u n v K -> callM C X0 n 183 (fillA Z30.a v) K :=
 call_tell hX (fn := Try.f183) (c := bodyOf Try.f183) (by kernel_rfl) (by kernel_rfl) (A := Z30.a) (u := Z30.u) (fun _ _ h => h) (call := D29) (lp := fun n => noL) (D29_ok hX) (fun n => noL_ok) (fun n v K => by kernel_rfl)
def D30 (n : Nat) : CallF := orC 183 Z30.a (Z30.u n) (D29 n)
theorem D30_ok : ∀ n g a K, D30 n g a K -> callM C X0 n g a K := fun n => orC_ok (Z30_ok hX n) (D29_ok hX n)
abbrev Z34.a : List TS := [.c (.o (.dat 58 Y19)), .c (.fn 96 [(true, 2)] 1 [.int .i64, .dat 155 (.int .u64)])]
def Z34.u (n : Nat) (v : VA Z34.a) (K : RES -> Prop) : Prop := Z34.c n v.1 v.2.1.1 v.2.1.2.1 (fun r0 => K ⟨.c (.int .i64 r0), []⟩)
abbrev Z34.l2.s : ST := ⟨[(0, .c (.o (.dat 58 Y19))), (1, .c (.fn 96 [(true, 2)] 1 [.int .i64, .dat 155 (.int .u64)])), (7, .c (.o (.int .i64))), (8, .c (.o (.int .i64)))], [], [], [], []⟩
def Z34.l2.u (n : Nat) (v : Z34.l2.s.V) (K : X -> St -> Prop) : Prop := Z34.l2 n v.1.1 v.1.2.1.1 v.1.2.1.2.1 v.1.2.2.1 v.1.2.2.2.1 (K (.exit 0) ⟨[], [], [], [], []⟩) (fun y0 => K .ret ⟨[(4, .c (.int .i64 y0))], [], [], [], []⟩)
theorem Z34.l2_ok : ∀ n v K, Z34.l2.u n v K -> loopM C X0 n 209 2 (Z34.l2.s.fill v) K :=
 loop_tell hX (fn := Try.f209) (c := bodyOf Try.f209) (a := loopOf Try.f209 2) (li := liOf (C.fi 209).loops 2) (by kernel_rfl) (by kernel_rfl) (of_decide_eq_true rfl) (by kernel_rfl) (by kernel_rfl) (T := Z34.l2.s) (u := Z34.l2.u) (fun _ _ h => h) (call := D30) (lp := fun n => noL) (D30_ok hX) (fun n => noL_ok) (fun n v K => by kernel_rfl)
theorem Z34_ok : ∀ n v K, Z34.u n v K -> callM C X0 n 209 (fillA Z34.a v) K :=
 call_tell hX (fn := Try.f209) (c := bodyOf Try.f209) (by kernel_rfl) (by kernel_rfl) (A := Z34.a) (u := Z34.u) (fun _ _ h => h) (call := D30) (lp := fun n => orL 2 Z34.l2.s (Z34.l2.u n) noL) (D30_ok hX) (fun n => (orL_ok (Z34.l2_ok hX n) noL_ok)) (fun n v K => by kernel_rfl)
def D31 (n : Nat) : CallF := orC 209 Z34.a (Z34.u n) (D30 n)
theorem D31_ok : ∀ n g a K, D31 n g a K -> callM C X0 n g a K := fun n => orC_ok (Z34_ok hX n) (D30_ok hX n)
abbrev Z28.a : List TS := [.c (.o (.dat 58 Y19)), .c (.fn 96 [(true, 2)] 1 [.int .i64, .dat 155 (.int .u64)])]
def Z28.u (n : Nat) (v : VA Z28.a) (K : RES -> Prop) : Prop := Z28.c n v.1 v.2.1.1 v.2.1.2.1 (fun r0 => K ⟨.c (.bool r0), []⟩)
theorem Z28_ok : ∀ n v K, Z28.u n v K -> callM C X0 n 184 (fillA Z28.a v) K :=
 call_tell hX (fn := Try.f184) (c := bodyOf Try.f184) (by kernel_rfl) (by kernel_rfl) (A := Z28.a) (u := Z28.u) (fun _ _ h => h) (call := D31) (lp := fun n => noL) (D31_ok hX) (fun n => noL_ok) (fun n v K => by kernel_rfl)
def D32 (n : Nat) : CallF := orC 184 Z28.a (Z28.u n) (D31 n)
theorem D32_ok : ∀ n g a K, D32 n g a K -> callM C X0 n g a K := fun n => orC_ok (Z28_ok hX n) (D31_ok hX n)
abbrev Z19.a : List TS := [.c (.o (.int .i64)), .c (.o (.int .i64)), .c (.boxr 158 [.row 157 Y16 2])]
def Z19.u (n : Nat) (v : VA Z19.a) (K : RES -> Prop) : Prop := Z19.c n v.1 v.2.1 v.2.2.1.1 (fun r0 => K ⟨.tup [], [[.boxr 158 [.row ⟨157, .prod (.sl 2 (.int .i64)) (.sl 58 Y19), r0, 2, none⟩]]]⟩)
theorem Z19_ok : ∀ n v K, Z19.u n v K -> callM C X0 n 182 (fillA Z19.a v) K :=
 call_tell hX (fn := Try.f182) (c := bodyOf Try.f182) (by kernel_rfl) (by kernel_rfl) (A := Z19.a) (u := Z19.u) (fun _ _ h => h) (call := D32) (lp := fun n => noL) (D32_ok hX) (fun n => noL_ok) (fun n v K => by kernel_rfl)
def D33 (n : Nat) : CallF := orC 182 Z19.a (Z19.u n) (D32 n)
theorem D33_ok : ∀ n g a K, D33 n g a K -> callM C X0 n g a K := fun n => orC_ok (Z19_ok hX n) (D32_ok hX n)
abbrev Z18.a : List TS := [.a [.o (.dat 2 (.int .i64)), .o (.dat 123 Y15)]]
def Z18.u (n : Nat) (v : VA Z18.a) (K : RES -> Prop) : Prop := Z18.c n v.1.1 v.1.2.1 (fun r0 => K ⟨.c (.row ⟨157, .prod (.sl 2 (.int .i64)) (.sl 58 Y19), r0, 2, none⟩), []⟩)
abbrev Z18.l4.s : ST := ⟨[(3, .c (.o (.pbox 3 0))), (4, .c (.fn 182 [(false, 1)] 0 [.pbox 3 0])), (14, .c (.o (.dat 123 Y15))), (15, .c (.o (.int .i64))), (16, .c (.o (.int .i64)))], [⟨1000096, 157, .prod (.sl 2 (.int .i64)) (.sl 58 Y19), 2⟩], [⟨3, 158, [.o (.own 1000096)], false⟩], [], []⟩
def Z18.l4.u (n : Nat) (v : Z18.l4.s.V) (K : X -> St -> Prop) : Prop := Z18.l4 n v.1.2.2.1 v.1.2.2.2.1 v.1.2.2.2.2.1 v.2.1.1 (fun y0 => K (.exit 0) ⟨[(3, .c (.pbox 3 0))], [(1000096, ⟨157, .prod (.sl 2 (.int .i64)) (.sl 58 Y19), y0, 2, none⟩)], [(3, ⟨158, [.own 1000096], false⟩)], [], []⟩)
theorem Z18.l4_ok : ∀ n v K, Z18.l4.u n v K -> loopM C X0 n 119 4 (Z18.l4.s.fill v) K :=
 loop_tell hX (fn := Try.f119) (c := bodyOf Try.f119) (a := loopOf Try.f119 4) (li := liOf (C.fi 119).loops 4) (by kernel_rfl) (by kernel_rfl) (of_decide_eq_true rfl) (by kernel_rfl) (by kernel_rfl) (T := Z18.l4.s) (u := Z18.l4.u) (fun _ _ h => h) (call := D33) (lp := fun n => noL) (D33_ok hX) (fun n => noL_ok) (fun n v K => by kernel_rfl)
theorem Z18_ok : ∀ n v K, Z18.u n v K -> callM C X0 n 119 (fillA Z18.a v) K :=
 call_tell hX (fn := Try.f119) (c := bodyOf Try.f119) (by kernel_rfl) (by kernel_rfl) (A := Z18.a) (u := Z18.u) (fun _ _ h => h) (call := D33) (lp := fun n => orL 4 Z18.l4.s (Z18.l4.u n) noL) (D33_ok hX) (fun n => (orL_ok (Z18.l4_ok hX n) noL_ok)) (fun n v K => by kernel_rfl)
def D34 (n : Nat) : CallF := orC 119 Z18.a (Z18.u n) (D33 n)
theorem D34_ok : ∀ n g a K, D34 n g a K -> callM C X0 n g a K := fun n => orC_ok (Z18_ok hX n) (D33_ok hX n)
abbrev Z20.a : List TS := [.c (.o (.pdat 157 Y16 0))]
def Z20.u (n : Nat) (v : VA Z20.a) (K : RES -> Prop) : Prop := Z20.c n v.1 (fun r0 => K ⟨.c (.int .i64 r0), []⟩)
theorem Z20_ok : ∀ n v K, Z20.u n v K -> callM C X0 n 120 (fillA Z20.a v) K :=
 call_tell hX (fn := Try.f120) (c := bodyOf Try.f120) (by kernel_rfl) (by kernel_rfl) (A := Z20.a) (u := Z20.u) (fun _ _ h => h) (call := D34) (lp := fun n => noL) (D34_ok hX) (fun n => noL_ok) (fun n v K => by kernel_rfl)
def D35 (n : Nat) : CallF := orC 120 Z20.a (Z20.u n) (D34 n)
theorem D35_ok : ∀ n g a K, D35 n g a K -> callM C X0 n g a K := fun n => orC_ok (Z20_ok hX n) (D34_ok hX n)
abbrev Z23.a : List TS := [.c (.o (.dat 5 (.int .u8)))]
def Z23.u (n : Nat) (v : VA Z23.a) (K : RES -> Prop) : Prop := Z23.c n v.1 (fun r0 => K ⟨.c (.bool r0), []⟩)
theorem Z23_ok : ∀ n v K, Z23.u n v K -> callM C X0 n 32 (fillA Z23.a v) K :=
 call_tell hX (fn := Try.f32) (c := bodyOf Try.f32) (by kernel_rfl) (by kernel_rfl) (A := Z23.a) (u := Z23.u) (fun _ _ h => h) (call := D35) (lp := fun n => noL) (D35_ok hX) (fun n => noL_ok) (fun n v K => by kernel_rfl)
def D36 (n : Nat) : CallF := orC 32 Z23.a (Z23.u n) (D35 n)
theorem D36_ok : ∀ n g a K, D36 n g a K -> callM C X0 n g a K := fun n => orC_ok (Z23_ok hX n) (D35_ok hX n)
abbrev Z51.a : List TS := [.c (.o (.dat 5 (.int .u8)))]
def Z51.u (n : Nat) (v : VA Z51.a) (K : RES -> Prop) : Prop := Z51.c n v.1 (fun r0 r1 => K ⟨.c (.boxr 210 [.dat 5 (.int .u8) r0, .int .i64 r1]), []⟩)
theorem Z51_ok : ∀ n v K, Z51.u n v K -> callM C X0 n 99 (fillA Z51.a v) K :=
 call_tell hX (fn := Try.f99) (c := bodyOf Try.f99) (by kernel_rfl) (by kernel_rfl) (A := Z51.a) (u := Z51.u) (fun _ _ h => h) (call := D36) (lp := fun n => noL) (D36_ok hX) (fun n => noL_ok) (fun n v K => by kernel_rfl)
def D37 (n : Nat) : CallF := orC 99 Z51.a (Z51.u n) (D36 n)
theorem D37_ok : ∀ n g a K, D37 n g a K -> callM C X0 n g a K := fun n => orC_ok (Z51_ok hX n) (D36_ok hX n)
abbrev Z56.a : List TS := [.c (.boxr 210 [.dat 5 (.int .u8), .int .i64])]
def Z56.u (n : Nat) (v : VA Z56.a) (K : RES -> Prop) : Prop := Z56.c n v.1.1 v.1.2.1 (fun r0 r1 r2 => K ⟨.c (.int .i64 r0), [[.boxr 210 [.dat 5 (.int .u8) r1, .int .i64 r2]]]⟩)
theorem Z56_ok : ∀ n v K, Z56.u n v K -> callM C X0 n 204 (fillA Z56.a v) K :=
 call_tell hX (fn := Try.f204) (c := bodyOf Try.f204) (by kernel_rfl) (by kernel_rfl) (A := Z56.a) (u := Z56.u) (fun _ _ h => h) (call := D37) (lp := fun n => noL) (D37_ok hX) (fun n => noL_ok) (fun n v K => by kernel_rfl)
def D38 (n : Nat) : CallF := orC 204 Z56.a (Z56.u n) (D37 n)
theorem D38_ok : ∀ n g a K, D38 n g a K -> callM C X0 n g a K := fun n => orC_ok (Z56_ok hX n) (D37_ok hX n)
abbrev Z52.a : List TS := [.c (.boxr 210 [.dat 5 (.int .u8), .int .i64]), .c (.o (.int .i64))]
def Z52.u (n : Nat) (v : VA Z52.a) (K : RES -> Prop) : Prop := Z52.c n v.1.1 v.1.2.1 v.2.1 (fun r0 r1 r2 => K ⟨.c (.int .i64 r0), [[.boxr 210 [.dat 5 (.int .u8) r1, .int .i64 r2]]]⟩)
theorem Z52_ok : ∀ n v K, Z52.u n v K -> callM C X0 n 168 (fillA Z52.a v) K :=
 call_tell hX (fn := Try.f168) (c := bodyOf Try.f168) (by kernel_rfl) (by kernel_rfl) (A := Z52.a) (u := Z52.u) (fun _ _ h => h) (call := D38) (lp := fun n => noL) (D38_ok hX) (fun n => noL_ok) (fun n v K => by kernel_rfl)
def D39 (n : Nat) : CallF := orC 168 Z52.a (Z52.u n) (D38 n)
theorem D39_ok : ∀ n g a K, D39 n g a K -> callM C X0 n g a K := fun n => orC_ok (Z52_ok hX n) (D38_ok hX n)
abbrev Z58.a : List TS := [.c (.boxr 210 [.dat 5 (.int .u8), .int .i64]), .c (.o (.int .i64))]
def Z58.u (n : Nat) (v : VA Z58.a) (K : RES -> Prop) : Prop := Z58.c n v.1.1 v.1.2.1 v.2.1 (fun r0 r1 r2 => K ⟨.c (.bool r0), [[.boxr 210 [.dat 5 (.int .u8) r1, .int .i64 r2]]]⟩)
theorem Z58_ok : ∀ n v K, Z58.u n v K -> callM C X0 n 101 (fillA Z58.a v) K :=
 call_tell hX (fn := Try.f101) (c := bodyOf Try.f101) (by kernel_rfl) (by kernel_rfl) (A := Z58.a) (u := Z58.u) (fun _ _ h => h) (call := D39) (lp := fun n => noL) (D39_ok hX) (fun n => noL_ok) (fun n v K => by kernel_rfl)
def D40 (n : Nat) : CallF := orC 101 Z58.a (Z58.u n) (D39 n)
theorem D40_ok : ∀ n g a K, D40 n g a K -> callM C X0 n g a K := fun n => orC_ok (Z58_ok hX n) (D39_ok hX n)
abbrev Z59.a : List TS := [.c (.boxr 210 [.dat 5 (.int .u8), .int .i64])]
def Z59.u (n : Nat) (v : VA Z59.a) (K : RES -> Prop) : Prop := Z59.c n v.1.1 v.1.2.1 (fun r0 r1 r2 => K ⟨.c (.int .i64 r0), [[.boxr 210 [.dat 5 (.int .u8) r1, .int .i64 r2]]]⟩)
theorem Z59_ok : ∀ n v K, Z59.u n v K -> callM C X0 n 169 (fillA Z59.a v) K :=
 call_tell hX (fn := Try.f169) (c := bodyOf Try.f169) (by kernel_rfl) (by kernel_rfl) (A := Z59.a) (u := Z59.u) (fun _ _ h => h) (call := D40) (lp := fun n => noL) (D40_ok hX) (fun n => noL_ok) (fun n v K => by kernel_rfl)
def D41 (n : Nat) : CallF := orC 169 Z59.a (Z59.u n) (D40 n)
theorem D41_ok : ∀ n g a K, D41 n g a K -> callM C X0 n g a K := fun n => orC_ok (Z59_ok hX n) (D40_ok hX n)
end
end Go.Vsi
end

section
set_option linter.unusedVariables false
namespace Go.Vsi
open Go.Proofs
section
variable {X0 : CallF} (hX : CallF.Mono X0)
include hX
abbrev Z60.a : List TS := [.c (.boxr 210 [.dat 5 (.int .u8), .int .i64])]
def Z60.u (n : Nat) (v : VA Z60.a) (K : RES -> Prop) : Prop := Z60.c n v.1.1 v.1.2.1 (fun r0 r1 r2 => K ⟨.c (.int .u64 r0), [[.boxr 210 [.dat 5 (.int .u8) r1, .int .i64 r2]]]⟩)
abbrev Z60.l3.s : ST := ⟨[(0, .c (.o (.pbox 0 0))), (3, .c (.o (.int .u64))), (4, .c (.o (.int .i64)))], [], [⟨0, 210, [.o (.dat 5 (.int .u8)), .o (.int .i64)], false⟩], [], [0]⟩
def Z60.l3.u (n : Nat) (v : Z60.l3.s.V) (K : X -> St -> Prop) : Prop := Z60.l3 n v.1.2.1 v.1.2.2.1 v.2.2.1.1 v.2.2.1.2.1 (fun y0 y1 y2 => K (.exit 0) ⟨[(3, .c (.int .u64 y0))], [], [(0, ⟨210, [.dat 5 (.int .u8) y1, .int .i64 y2], false⟩)], [], [0]⟩)
theorem Z60.l3_ok : ∀ n v K, Z60.l3.u n v K -> loopM C X0 n 179 3 (Z60.l3.s.fill v) K :=
 loop_tell hX (fn := Try.f179) (c := bodyOf Try.f179) (a := loopOf Try.f179 3) (li := liOf (C.fi 179).loops 3) (by kernel_rfl) (by kernel_rfl) (of_decide_eq_true rfl) (by kernel_rfl) (by kernel_rfl) (T := Z60.l3.s) (u := Z60.l3.u) (fun _ _ h => h) (call := D41) (lp := fun n => noL) (D41_ok hX) (fun n => noL_ok) (fun n v K => by kernel_rfl)
theorem Z60_ok : ∀ n v K, Z60.u n v K -> callM C X0 n 179 (fillA Z60.a v) K :=
 call_tell hX (fn := Try.f179) (c := bodyOf Try.f179) (by kernel_rfl) (by kernel_rfl) (A := Z60.a) (u := Z60.u) (fun _ _ h => h) (call := D41) (lp := fun n => orL 3 Z60.l3.s (Z60.l3.u n) noL) (D41_ok hX) (fun n => (orL_ok (Z60.l3_ok hX n) noL_ok)) (fun n v K => by kernel_rfl)
def D42 (n : Nat) : CallF := orC 179 Z60.a (Z60.u n) (D41 n)
theorem D42_ok : ∀ n g a K, D42 n g a K -> callM C X0 n g a K := fun n => orC_ok (Z60_ok hX n) (D41_ok hX n)
abbrev Z55.a : List TS := [.c (.boxr 210 [.dat 5 (.int .u8), .int .i64]), .c (.o (.int .i64)), .c (.o (.int .i64))]
def Z55.u (n : Nat) (v : VA Z55.a) (K : RES -> Prop) : Prop := Z55.c n v.1.1 v.1.2.1 v.2.1 v.2.2.1 (fun r0 r1 r2 => K ⟨.c (.int .i64 r0), [[.boxr 210 [.dat 5 (.int .u8) r1, .int .i64 r2]]]⟩)
theorem Z55_ok : ∀ n v K, Z55.u n v K -> callM C X0 n 171 (fillA Z55.a v) K :=
 call_tell hX (fn := Try.f171) (c := bodyOf Try.f171) (by kernel_rfl) (by kernel_rfl) (A := Z55.a) (u := Z55.u) (fun _ _ h => h) (call := D42) (lp := fun n => noL) (D42_ok hX) (fun n => noL_ok) (fun n v K => by kernel_rfl)
def D43 (n : Nat) : CallF := orC 171 Z55.a (Z55.u n) (D42 n)
theorem D43_ok : ∀ n g a K, D43 n g a K -> callM C X0 n g a K := fun n => orC_ok (Z55_ok hX n) (D42_ok hX n)
abbrev Z57.a : List TS := [.c (.boxr 210 [.dat 5 (.int .u8), .int .i64]), .c (.o (.int .i64)), .c (.o (.int .i64))]
def Z57.u (n : Nat) (v : VA Z57.a) (K : RES -> Prop) : Prop := Z57.c n v.1.1 v.1.2.1 v.2.1 v.2.2.1 (fun r0 r1 r2 => K ⟨.c (.int .i64 r0), [[.boxr 210 [.dat 5 (.int .u8) r1, .int .i64 r2]]]⟩)
theorem Z57_ok : ∀ n v K, Z57.u n v K -> callM C X0 n 102 (fillA Z57.a v) K :=
 call_tell hX (fn := Try.f102) (c := bodyOf Try.f102) (by kernel_rfl) (by kernel_rfl) (A := Z57.a) (u := Z57.u) (fun _ _ h => h) (call := D43) (lp := fun n => noL) (D43_ok hX) (fun n => noL_ok) (fun n v K => by kernel_rfl)
def D44 (n : Nat) : CallF := orC 102 Z57.a (Z57.u n) (D43 n)
theorem D44_ok : ∀ n g a K, D44 n g a K -> callM C X0 n g a K := fun n => orC_ok (Z57_ok hX n) (D43_ok hX n)
abbrev Z47.a : List TS := [.c (.o (.dat 5 (.int .u8)))]
def Z47.u (n : Nat) (v : VA Z47.a) (K : RES -> Prop) : Prop := Z47.c n v.1 (fun r0 r1 r2 => K ⟨.tup [.agg [.int .i64 r0, .row ⟨155, .int .u64, r1, 99, none⟩], .c (.bool r2)], []⟩)
abbrev Z47.l5.s : ST := ⟨[(0, .c (.o (.dat 5 (.int .u8)))), (2, .c (.o (.pbox 2 0))), (4, .c (.o (.pbox 4 0))), (5, .c (.o (.int .i64)))], [⟨672, 155, .int .u64, 99⟩, ⟨1000065, 155, .int .u64, 99⟩], [⟨2, 58, [.o (.int .i64), .o (.own 1000065)], false⟩, ⟨4, 58, [.o (.int .i64), .o (.own 672)], false⟩], [], []⟩
def Z47.l5.u (n : Nat) (v : Z47.l5.s.V) (K : X -> St -> Prop) : Prop := Z47.l5 n v.1.1 v.2.1.2.1 v.2.2.1.1 v.2.2.2.1.1 v.1.2.2.2.1 v.2.1.1 (fun y0 y1 y2 y3 => K (.exit 0) ⟨[(2, .c (.pbox 2 0)), (4, .c (.pbox 4 0))], [(672, ⟨155, .int .u64, y0, 99, none⟩), (1000065, ⟨155, .int .u64, y1, 99, none⟩)], [(2, ⟨58, [.int .i64 y2, .own 1000065], false⟩), (4, ⟨58, [.int .i64 y3, .own 672], false⟩)], [], []⟩)
theorem Z47.l5_ok : ∀ n v K, Z47.l5.u n v K -> loopM C X0 n 110 5 (Z47.l5.s.fill v) K :=
 loop_tell hX (fn := Try.f110) (c := bodyOf Try.f110) (a := loopOf Try.f110 5) (li := liOf (C.fi 110).loops 5) (by kernel_rfl) (by kernel_rfl) (of_decide_eq_true rfl) (by kernel_rfl) (by kernel_rfl) (T := Z47.l5.s) (u := Z47.l5.u) (fun _ _ h => h) (call := D44) (lp := fun n => noL) (D44_ok hX) (fun n => noL_ok) (fun n v K => by kernel_rfl)
theorem Z47_ok : ∀ n v K, Z47.u n v K -> callM C X0 n 110 (fillA Z47.a v) K :=
 call_tell hX (fn := Try.f110) (c := bodyOf Try.f110) (by kernel_rfl) (by kernel_rfl) (A := Z47.a) (u := Z47.u) (fun _ _ h => h) (call := D44) (lp := fun n => orL 5 Z47.l5.s (Z47.l5.u n) noL) (D44_ok hX) (fun n => (orL_ok (Z47.l5_ok hX n) noL_ok)) (fun n v K => by kernel_rfl)
def D45 (n : Nat) : CallF := orC 110 Z47.a (Z47.u n) (D44 n)
theorem D45_ok : ∀ n g a K, D45 n g a K -> callM C X0 n g a K := fun n => orC_ok (Z47_ok hX n) (D44_ok hX n)
abbrev Z53.a : List TS := [.c (.boxr 210 [.dat 5 (.int .u8), .int .i64]), .c (.o (.int .i64))]
def Z53.u (n : Nat) (v : VA Z53.a) (K : RES -> Prop) : Prop := Z53.c n v.1.1 v.1.2.1 v.2.1 (fun r0 r1 r2 r3 => K ⟨.agg [.int .i64 r0, .row ⟨155, .int .u64, r1, 99, none⟩], [[.boxr 210 [.dat 5 (.int .u8) r2, .int .i64 r3]]]⟩)
abbrev Z53.l5.s : ST := ⟨[(1, .c (.o (.int .i64))), (4, .c (.o (.pbox 4 0))), (5, .c (.o (.own 160))), (6, .c (.o (.int .u64))), (7, .c (.o (.int .i64))), (8, .c (.o (.int .i64)))], [⟨160, 5, .int .u8, 99⟩, ⟨1000129, 155, .int .u64, 99⟩], [⟨0, 210, [.o (.dat 5 (.int .u8)), .o (.int .i64)], false⟩, ⟨4, 58, [.o (.int .i64), .o (.own 1000129)], false⟩], [], [0]⟩
def Z53.l5.u (n : Nat) (v : Z53.l5.s.V) (K : X -> St -> Prop) : Prop := Z53.l5 n v.1.1 v.1.2.2.2.1 v.1.2.2.2.2.1 v.2.1.2.1 v.2.2.1.1 v.2.2.1.2.1 v.2.2.2.1.1 v.1.2.2.2.2.2.1 v.2.1.1 (fun y0 y1 y2 y3 y4 => K (.exit 0) ⟨[(4, .c (.pbox 4 0)), (5, .c (.own 160))], [(160, ⟨5, .int .u8, y0, 99, none⟩), (1000129, ⟨155, .int .u64, y1, 99, none⟩)], [(0, ⟨210, [.dat 5 (.int .u8) y2, .int .i64 y3], false⟩), (4, ⟨58, [.int .i64 y4, .own 1000129], false⟩)], [], [0]⟩)
theorem Z53.l5_ok : ∀ n v K, Z53.l5.u n v K -> loopM C X0 n 170 5 (Z53.l5.s.fill v) K :=
 loop_tell hX (fn := Try.f170) (c := bodyOf Try.f170) (a := loopOf Try.f170 5) (li := liOf (C.fi 170).loops 5) (by kernel_rfl) (by kernel_rfl) (of_decide_eq_true rfl) (by kernel_rfl) (by kernel_rfl) (T := Z53.l5.s) (u := Z53.l5.u) (fun _ _ h => h) (call := D45) (lp := fun n => noL) (D45_ok hX) (fun n => noL_ok) (fun n v K => by kernel_rfl)
theorem Z53_ok : ∀ n v K, Z53.u n v K -> callM C X0 n 170 (fillA Z53.a v) K :=
 call_tell hX (fn := Try.f170) (c := bodyOf Try.f170) (by kernel_rfl) (by kernel_rfl) (A := Z53.a) (u := Z53.u) (fun _ _ h => h) (call := D45) (lp := fun n => orL 5 Z53.l5.s (Z53.l5.u n) noL) (D45_ok hX) (fun n => (orL_ok (Z53.l5_ok hX n) noL_ok)) (fun n v K => by kernel_rfl)
def D46 (n : Nat) : CallF := orC 170 Z53.a (Z53.u n) (D45 n)
theorem D46_ok : ∀ n g a K, D46 n g a K -> callM C X0 n g a K := fun n => orC_ok (Z53_ok hX n) (D45_ok hX n)
abbrev Z22.a : List TS := [.c (.o (.int .i64))]
def Z22.u (n : Nat) (v : VA Z22.a) (K : RES -> Prop) : Prop := Z22.c n v.1 (fun r0 r1 => K ⟨.agg [.int .i64 r0, .row ⟨155, .int .u64, r1, 99, none⟩], []⟩)
theorem Z22_ok : ∀ n v K, Z22.u n v K -> callM C X0 n 176 (fillA Z22.a v) K :=
 call_tell hX (fn := Try.f176) (c := bodyOf Try.f176) (by kernel_rfl) (by kernel_rfl) (A := Z22.a) (u := Z22.u) (fun _ _ h => h) (call := D46) (lp := fun n => noL) (D46_ok hX) (fun n => noL_ok) (fun n v K => by kernel_rfl)
def D47 (n : Nat) : CallF := orC 176 Z22.a (Z22.u n) (D46 n)
theorem D47_ok : ∀ n g a K, D47 n g a K -> callM C X0 n g a K := fun n => orC_ok (Z22_ok hX n) (D46_ok hX n)
abbrev Z37.a : List TS := [.c (.o (.int .i64)), .c (.o (.int .i64))]
def Z37.u (n : Nat) (v : VA Z37.a) (K : RES -> Prop) : Prop := Z37.c n v.1 v.2.1 (fun r0 r1 r2 => K ⟨.tup [.agg [.int .i64 r0, .row ⟨155, .int .u64, r1, 99, none⟩], .c (.bool r2)], []⟩)
abbrev Z37.l5.s : ST := ⟨[(0, .c (.o (.int .i64))), (1, .c (.o (.int .i64))), (4, .c (.o (.pbox 4 0))), (6, .c (.o (.own 192))), (7, .c (.o (.int .i64)))], [⟨192, 5, .int .u8, 99⟩, ⟨1000129, 155, .int .u64, 99⟩], [⟨4, 58, [.o (.int .i64), .o (.own 1000129)], false⟩], [], []⟩
def Z37.l5.u (n : Nat) (v : Z37.l5.s.V) (K : X -> St -> Prop) : Prop := Z37.l5 n v.1.1 v.2.1.2.1 v.2.2.1.1 v.1.2.1 v.1.2.2.2.2.1 v.2.1.1 (fun y0 y1 y2 y3 => K (.exit 0) ⟨[(1, .c (.int .i64 y0)), (4, .c (.pbox 4 0)), (6, .c (.own 192))], [(192, ⟨5, .int .u8, y1, 99, none⟩), (1000129, ⟨155, .int .u64, y2, 99, none⟩)], [(4, ⟨58, [.int .i64 y3, .own 1000129], false⟩)], [], []⟩)
theorem Z37.l5_ok : ∀ n v K, Z37.l5.u n v K -> loopM C X0 n 36 5 (Z37.l5.s.fill v) K :=
 loop_tell hX (fn := Try.f36) (c := bodyOf Try.f36) (a := loopOf Try.f36 5) (li := liOf (C.fi 36).loops 5) (by kernel_rfl) (by kernel_rfl) (of_decide_eq_true rfl) (by kernel_rfl) (by kernel_rfl) (T := Z37.l5.s) (u := Z37.l5.u) (fun _ _ h => h) (call := D47) (lp := fun n => noL) (D47_ok hX) (fun n => noL_ok) (fun n v K => by kernel_rfl)
theorem Z37_ok : ∀ n v K, Z37.u n v K -> callM C X0 n 36 (fillA Z37.a v) K :=
 call_tell hX (fn := Try.f36) (c := bodyOf Try.f36) (by kernel_rfl) (by kernel_rfl) (A := Z37.a) (u := Z37.u) (fun _ _ h => h) (call := D47) (lp := fun n => orL 5 Z37.l5.s (Z37.l5.u n) noL) (D47_ok hX) (fun n => (orL_ok (Z37.l5_ok hX n) noL_ok)) (fun n v K => by kernel_rfl)
def D48 (n : Nat) : CallF := orC 36 Z37.a (Z37.u n) (D47 n)
theorem D48_ok : ∀ n g a K, D48 n g a K -> callM C X0 n g a K := fun n => orC_ok (Z37_ok hX n) (D47_ok hX n)
abbrev Z44.a : List TS := [.a [.o (.dat 2 (.int .i64)), .o (.dat 123 Y15)], .c (.o (.dat 58 Y19)), .c (.o (.int .i64)), .a [.o (.int .i64), .o (.dat 155 (.int .u64))]]
def Z44.u (n : Nat) (v : VA Z44.a) (K : RES -> Prop) : Prop := Z44.c n v.1.1 v.1.2.1 v.2.1 v.2.2.1 v.2.2.2.1.1 v.2.2.2.1.2.1 (fun r0 => K ⟨.c (.bool r0), []⟩)
abbrev Z44.l2.s : ST := ⟨[(1, .c (.o (.dat 58 Y19))), (2, .c (.o (.int .i64))), (4, .c (.o (.pbox 4 0))), (7, .c (.o (.pbox 7 0))), (9, .c (.o (.int .i64)))], [], [⟨4, 42, [.o (.dat 2 (.int .i64)), .o (.dat 123 Y15)], false⟩, ⟨7, 58, [.o (.int .i64), .o (.dat 155 (.int .u64))], false⟩], [], []⟩
def Z44.l2.u (n : Nat) (v : Z44.l2.s.V) (K : X -> St -> Prop) : Prop := Z44.l2 n v.1.1 v.1.2.1 v.2.2.1.1 v.2.2.1.2.1 v.2.2.2.1.1 v.2.2.2.1.2.1 v.1.2.2.2.2.1 (K (.exit 0) ⟨[], [], [], [], []⟩) (fun y0 => K .ret ⟨[(8, .c (.bool y0))], [], [], [], []⟩)
theorem Z44.l2_ok : ∀ n v K, Z44.l2.u n v K -> loopM C X0 n 106 2 (Z44.l2.s.fill v) K :=
 loop_tell hX (fn := Try.f106) (c := bodyOf Try.f106) (a := loopOf Try.f106 2) (li := liOf (C.fi 106).loops 2) (by kernel_rfl) (by kernel_rfl) (of_decide_eq_true rfl) (by kernel_rfl) (by kernel_rfl) (T := Z44.l2.s) (u := Z44.l2.u) (fun _ _ h => h) (call := D48) (lp := fun n => noL) (D48_ok hX) (fun n => noL_ok) (fun n v K => by kernel_rfl)
theorem Z44_ok : ∀ n v K, Z44.u n v K -> callM C X0 n 106 (fillA Z44.a v) K :=
 call_tell hX (fn := Try.f106) (c := bodyOf Try.f106) (by kernel_rfl) (by kernel_rfl) (A := Z44.a) (u := Z44.u) (fun _ _ h => h) (call := D48) (lp := fun n => orL 2 Z44.l2.s (Z44.l2.u n) noL) (D48_ok hX) (fun n => (orL_ok (Z44.l2_ok hX n) noL_ok)) (fun n v K => by kernel_rfl)
def D49 (n : Nat) : CallF := orC 106 Z44.a (Z44.u n) (D48 n)
theorem D49_ok : ∀ n g a K, D49 n g a K -> callM C X0 n g a K := fun n => orC_ok (Z44_ok hX n) (D48_ok hX n)
abbrev Z45.a : List TS := [.c (.boxr 147 [.dat 2 (.int .i64), .dat 123 Y15, .row 58 Y19 99, .row 2 (.int .i64) 99, .int .i64, .int .i64, .bool]), .c (.o (.int .i64))]
def Z45.u (n : Nat) (v : VA Z45.a) (K : RES -> Prop) : Prop := Z45.c n v.1.1 v.1.2.1 v.1.2.2.1 v.1.2.2.2.1 v.1.2.2.2.2.1 v.1.2.2.2.2.2.1 v.1.2.2.2.2.2.2.1 v.2.1 (fun r0 r1 r2 r3 r4 r5 r6 r7 => K ⟨.c (.bool r0), [[.boxr 147 [.dat 2 (.int .i64) r1, .dat 123 Y15 r2, .row ⟨58, .prod (.int .i64) (.sl 155 (.int .u64)), r3, 99, none⟩, .row ⟨2, .int .i64, r4, 99, none⟩, .int .i64 r5, .int .i64 r6, .bool r7]]]⟩)
abbrev Z45.l10.s : ST := ⟨[(0, .c (.o (.pbox 0 0))), (1, .c (.o (.int .i64))), (5, .c (.o (.int .i64))), (6, .c (.o (.int .i64))), (7, .c (.o (.int .i64)))], [⟨1000002, 58, .prod (.int .i64) (.sl 155 (.int .u64)), 99⟩, ⟨1000003, 2, .int .i64, 99⟩], [⟨0, 147, [.o (.dat 2 (.int .i64)), .o (.dat 123 Y15), .o (.own 1000002), .o (.own 1000003), .o (.int .i64), .o (.int .i64), .o .bool], false⟩], [], [0]⟩
def Z45.l10.u (n : Nat) (v : Z45.l10.s.V) (K : X -> St -> Prop) : Prop := Z45.l10 n v.1.2.1 v.1.2.2.1 v.1.2.2.2.1 v.1.2.2.2.2.1 v.2.1.1 v.2.1.2.1 v.2.2.1.1 v.2.2.1.2.1 v.2.2.1.2.2.2.2.1 v.2.2.1.2.2.2.2.2.1 v.2.2.1.2.2.2.2.2.2.1 (fun y0 y1 y2 y3 y4 y5 y6 => K (.exit 0) ⟨[], [(1000002, ⟨58, .prod (.int .i64) (.sl 155 (.int .u64)), y0, 99, none⟩), (1000003, ⟨2, .int .i64, y1, 99, none⟩)], [(0, ⟨147, [.dat 2 (.int .i64) y2, .dat 123 Y15 y3, .own 1000002, .own 1000003, .int .i64 y4, .int .i64 y5, .bool y6], false⟩)], [], [0]⟩) (fun y0 y1 y2 y3 y4 y5 y6 y7 => K .ret ⟨[(4, .c (.bool y0))], [(1000002, ⟨58, .prod (.int .i64) (.sl 155 (.int .u64)), y1, 99, none⟩), (1000003, ⟨2, .int .i64, y2, 99, none⟩)], [(0, ⟨147, [.dat 2 (.int .i64) y3, .dat 123 Y15 y4, .own 1000002, .own 1000003, .int .i64 y5, .int .i64 y6, .bool y7], false⟩)], [], [0]⟩)
theorem Z45_all : ∀ n, (∀ v K, Z45.u n v K -> callM C X0 n 105 (fillA Z45.a v) K) /\ (∀ v K, Z45.l10.u n v K -> loopM C X0 n 105 10 (Z45.l10.s.fill v) K) /\ True
 | 0 => ⟨fun _ _ h => h.elim, fun _ _ h => h.elim, trivial⟩
 | n + 1 => have ih := Z45_all n
  ⟨fun v K h => call_of hX (fn := Try.f105) (c := bodyOf Try.f105) (by kernel_rfl) (by kernel_rfl) (call := (orC 105 Z45.a (Z45.u n) (D49 n))) (lp := orL 10 Z45.l10.s (Z45.l10.u n) noL) (orC_ok ih.1 (D49_ok hX n)) (orL_ok (ih.2.1) noL_ok) (P := Z45.u (n + 1) v K) (by kernel_rfl) h,
  fun v K h => loop_of hX (fn := Try.f105) (c := bodyOf Try.f105) (a := loopOf Try.f105 10) (li := liOf (C.fi 105).loops 10) (by kernel_rfl) (by kernel_rfl) (of_decide_eq_true rfl) (by kernel_rfl) (by kernel_rfl) (call := (orC 105 Z45.a (Z45.u n) (D49 n))) (lp := noL) (again := fitK Z45.l10.s fun v' => Z45.l10.u n v' K) (orC_ok ih.1 (D49_ok hX n)) noL_ok (fitK_ok fun v' h' => ih.2.1 v' K h') (P := Z45.l10.u (n + 1) v K) (by kernel_rfl) h, trivial⟩
theorem Z45_ok : ∀ n v K, Z45.u n v K -> callM C X0 n 105 (fillA Z45.a v) K := fun n => (Z45_all hX n).1
def D50 (n : Nat) : CallF := orC 105 Z45.a (Z45.u n) (D49 n)
theorem D50_ok : ∀ n g a K, D50 n g a K -> callM C X0 n g a K := fun n => orC_ok (Z45_ok hX n) (D49_ok hX n)
abbrev Z50.a : List TS := [.a [.o (.int .i64), .o (.dat 155 (.int .u64))]]
def Z50.u (n : Nat) (v : VA Z50.a) (K : RES -> Prop) : Prop := Z50.c n v.1.1 v.1.2.1 (fun r0 => K ⟨.c (.row ⟨5, .int .u8, r0, 99, none⟩), []⟩)
abbrev Z50.l3.s : ST := ⟨[(1, .c (.o (.pbox 1 0))), (3, .c (.o (.own 96))), (4, .c (.o (.int .i64)))], [⟨96, 5, .int .u8, 99⟩], [⟨1, 58, [.o (.int .i64), .o (.dat 155 (.int .u64))], false⟩], [], []⟩
def Z50.l3.u (n : Nat) (v : Z50.l3.s.V) (K : X -> St -> Prop) : Prop := Z50.l3 n v.2.2.1.1 v.2.2.1.2.1 v.1.2.2.1 v.2.1.1 (fun y0 => K (.exit 0) ⟨[(3, .c (.own 96))], [(96, ⟨5, .int .u8, y0, 99, none⟩)], [], [], []⟩)
theorem Z50.l3_ok : ∀ n v K, Z50.l3.u n v K -> loopM C X0 n 173 3 (Z50.l3.s.fill v) K :=
 loop_tell hX (fn := Try.f173) (c := bodyOf Try.f173) (a := loopOf Try.f173 3) (li := liOf (C.fi 173).loops 3) (by kernel_rfl) (by kernel_rfl) (of_decide_eq_true rfl) (by kernel_rfl) (by kernel_rfl) (T := Z50.l3.s) (u := Z50.l3.u) (fun _ _ h => h) (call := D50) (lp := fun n => noL) (D50_ok hX) (fun n => noL_ok) (fun n v K => by kernel_rfl)
theorem Z50_ok : ∀ n v K, Z50.u n v K -> callM C X0 n 173 (fillA Z50.a v) K :=
 call_tell hX (fn := Try.f173) (c := bodyOf Try.f173) (by kernel_rfl) (by kernel_rfl) (A := Z50.a) (u := Z50.u) (fun _ _ h => h) (call := D50) (lp := fun n => orL 3 Z50.l3.s (Z50.l3.u n) noL) (D50_ok hX) (fun n => (orL_ok (Z50.l3_ok hX n) noL_ok)) (fun n v K => by kernel_rfl)
def D51 (n : Nat) : CallF := orC 173 Z50.a (Z50.u n) (D50 n)
theorem D51_ok : ∀ n g a K, D51 n g a K -> callM C X0 n g a K := fun n => orC_ok (Z50_ok hX n) (D50_ok hX n)
abbrev Z42.a : List TS := [.a [.o (.int .i64), .o (.dat 155 (.int .u64))]]
def Z42.u (n : Nat) (v : VA Z42.a) (K : RES -> Prop) : Prop := Z42.c n v.1.1 v.1.2.1 (fun r0 r1 r2 => K ⟨.tup [.agg [.int .i64 r0, .row ⟨155, .int .u64, r1, 99, none⟩], .c (.bool r2)], []⟩)
abbrev Z42.l5.s : ST := ⟨[(2, .c (.o (.pbox 2 0))), (4, .c (.o (.own 352))), (5, .c (.o (.int .i64)))], [⟨352, 5, .int .u8, 99⟩, ⟨1000065, 155, .int .u64, 99⟩], [⟨2, 58, [.o (.int .i64), .o (.own 1000065)], false⟩], [], []⟩
def Z42.l5.u (n : Nat) (v : Z42.l5.s.V) (K : X -> St -> Prop) : Prop := Z42.l5 n v.2.1.2.1 v.2.2.1.1 v.1.2.2.1 v.2.1.1 (fun y0 y1 => K (.exit 0) ⟨[(2, .c (.pbox 2 0))], [(1000065, ⟨155, .int .u64, y0, 99, none⟩)], [(2, ⟨58, [.int .i64 y1, .own 1000065], false⟩)], [], []⟩) (fun y0 y1 y2 => K .ret ⟨[(2, .c (.pbox 2 0)), (3, .c (.bool y0))], [(1025, ⟨155, .int .u64, y1, 99, none⟩)], [(2, ⟨58, [.int .i64 y2, .own 1025], false⟩)], [], []⟩)
theorem Z42.l5_ok : ∀ n v K, Z42.l5.u n v K -> loopM C X0 n 107 5 (Z42.l5.s.fill v) K :=
 loop_tell hX (fn := Try.f107) (c := bodyOf Try.f107) (a := loopOf Try.f107 5) (li := liOf (C.fi 107).loops 5) (by kernel_rfl) (by kernel_rfl) (of_decide_eq_true rfl) (by kernel_rfl) (by kernel_rfl) (T := Z42.l5.s) (u := Z42.l5.u) (fun _ _ h => h) (call := D51) (lp := fun n => noL) (D51_ok hX) (fun n => noL_ok) (fun n v K => by kernel_rfl)
theorem Z42_ok : ∀ n v K, Z42.u n v K -> callM C X0 n 107 (fillA Z42.a v) K :=
 call_tell hX (fn := Try.f107) (c := bodyOf Try.f107) (by kernel_rfl) (by kernel_rfl) (A := Z42.a) (u := Z42.u) (fun _ _ h => h) (call := D51) (lp := fun n => orL 5 Z42.l5.s (Z42.l5.u n) noL) (D51_ok hX) (fun n => (orL_ok (Z42.l5_ok hX n) noL_ok)) (fun n v K => by kernel_rfl)
def D52 (n : Nat) : CallF := orC 107 Z42.a (Z42.u n) (D51 n)
theorem D52_ok : ∀ n g a K, D52 n g a K -> callM C X0 n g a K := fun n => orC_ok (Z42_ok hX n) (D51_ok hX n)
abbrev Z39.a : List TS := [.a [.o (.dat 2 (.int .i64)), .o (.dat 123 Y15)], .c (.o (.int .i64))]
def Z39.u (n : Nat) (v : VA Z39.a) (K : RES -> Prop) : Prop := Z39.c n v.1.1 v.1.2.1 v.2.1 (fun r0 r1 r2 => K ⟨.tup [.c (.row ⟨58, .prod (.int .i64) (.sl 155 (.int .u64)), r0, 99, none⟩), .c (.int .i64 r1), .c (.int .i64 r2)], []⟩)
abbrev Z39.l6.s : ST := ⟨[(1, .c (.o (.int .i64))), (2, .c (.o (.pbox 2 0))), (7, .c (.o (.own 448))), (8, .c (.o (.pbox 31 0))), (9, .c (.o (.int .i64)))], [⟨448, 58, .prod (.int .i64) (.sl 155 (.int .u64)), 99⟩, ⟨896, 58, .prod (.int .i64) (.sl 155 (.int .u64)), 99⟩, ⟨1000995, 2, .int .i64, 99⟩], [⟨2, 42, [.o (.dat 2 (.int .i64)), .o (.dat 123 Y15)], false⟩, ⟨31, 147, [.o (.dat 2 (.int .i64)), .o (.dat 123 Y15), .o (.own 896), .o (.own 1000995), .o (.int .i64), .o (.int .i64), .o .bool], false⟩], [], []⟩
def Z39.l6.u (n : Nat) (v : Z39.l6.s.V) (K : X -> St -> Prop) : Prop := Z39.l6 n v.1.1 v.2.1.1 v.2.1.2.1 v.2.2.1.1 v.2.2.1.2.1 v.2.2.2.1.1 v.2.2.2.1.2.1 v.2.2.2.1.2.2.2.2.1 v.2.2.2.1.2.2.2.2.2.1 v.2.2.2.1.2.2.2.2.2.2.1 v.1.2.2.2.2.1 v.2.1.2.2.1 (fun y0 y1 y2 y3 y4 y5 y6 y7 y8 y9 y10 => K (.exit 0) ⟨[(1, .c (.int .i64 y0)), (2, .c (.pbox 2 0)), (7, .c (.own 448)), (8, .c (.pbox 31 0))], [(448, ⟨58, .prod (.int .i64) (.sl 155 (.int .u64)), y1, 99, none⟩), (896, ⟨58, .prod (.int .i64) (.sl 155 (.int .u64)), y2, 99, none⟩), (1000995, ⟨2, .int .i64, y3, 99, none⟩)], [(2, ⟨42, [.dat 2 (.int .i64) y4, .dat 123 Y15 y5], false⟩), (31, ⟨147, [.dat 2 (.int .i64) y6, .dat 123 Y15 y7, .own 896, .own 1000995, .int .i64 y8, .int .i64 y9, .bool y10], false⟩)], [], []⟩)
abbrev Z39.l20.s : ST := ⟨[(2, .c (.o (.pbox 2 0))), (8, .c (.o (.pbox 31 0))), (11, .c (.o (.int .i64))), (12, .c (.o (.pbox 12 0)))], [⟨1000385, 155, .int .u64, 99⟩, ⟨1000994, 58, .prod (.int .i64) (.sl 155 (.int .u64)), 99⟩, ⟨1000995, 2, .int .i64, 99⟩], [⟨2, 42, [.o (.dat 2 (.int .i64)), .o (.dat 123 Y15)], false⟩, ⟨12, 58, [.o (.int .i64), .o (.own 1000385)], false⟩, ⟨31, 147, [.o (.dat 2 (.int .i64)), .o (.dat 123 Y15), .o (.own 1000994), .o (.own 1000995), .o (.int .i64), .o (.int .i64), .o .bool], false⟩], [], []⟩
def Z39.l20.u (n : Nat) (v : Z39.l20.s.V) (K : X -> St -> Prop) : Prop := Z39.l20 n v.1.2.2.1 v.2.1.2.1 v.2.1.2.2.1 v.2.2.1.1 v.2.2.1.2.1 v.2.2.2.2.1.1 v.2.2.2.2.1.2.1 v.2.2.2.2.1.2.2.2.2.1 v.2.2.2.2.1.2.2.2.2.2.1 v.2.2.2.2.1.2.2.2.2.2.2.1 v.2.1.1 v.2.2.2.1.1 (fun y0 y1 y2 y3 y4 y5 y6 y7 y8 y9 y10 y11 => K (.exit 4) ⟨[(2, .c (.pbox 2 0)), (8, .c (.pbox 31 0)), (11, .c (.int .i64 y0)), (12, .c (.pbox 12 0))], [(1000385, ⟨155, .int .u64, y1, 99, none⟩), (1000994, ⟨58, .prod (.int .i64) (.sl 155 (.int .u64)), y2, 99, none⟩), (1000995, ⟨2, .int .i64, y3, 99, none⟩)], [(2, ⟨42, [.dat 2 (.int .i64) y4, .dat 123 Y15 y5], false⟩), (12, ⟨58, [.int .i64 y6, .own 1000385], false⟩), (31, ⟨147, [.dat 2 (.int .i64) y7, .dat 123 Y15 y8, .own 1000994, .own 1000995, .int .i64 y9, .int .i64 y10, .bool y11], false⟩)], [], []⟩)
abbrev Z39.l16.s : ST := ⟨[(2, .c (.o (.pbox 2 0))), (8, .c (.o (.pbox 31 0))), (11, .c (.o (.int .i64)))], [⟨1000994, 58, .prod (.int .i64) (.sl 155 (.int .u64)), 99⟩, ⟨1000995, 2, .int .i64, 99⟩], [⟨2, 42, [.o (.dat 2 (.int .i64)), .o (.dat 123 Y15)], false⟩, ⟨31, 147, [.o (.dat 2 (.int .i64)), .o (.dat 123 Y15), .o (.own 1000994), .o (.own 1000995), .o (.int .i64), .o (.int .i64), .o .bool], false⟩], [], []⟩
def Z39.l16.u (n : Nat) (v : Z39.l16.s.V) (K : X -> St -> Prop) : Prop := Z39.l16 n v.1.2.2.1 v.2.1.1 v.2.1.2.1 v.2.2.1.1 v.2.2.1.2.1 v.2.2.2.1.1 v.2.2.2.1.2.1 v.2.2.2.1.2.2.2.2.1 v.2.2.2.1.2.2.2.2.2.1 v.2.2.2.1.2.2.2.2.2.2.1 (fun y0 y1 y2 y3 y4 y5 y6 => K (.exit 2) ⟨[(8, .c (.pbox 31 0))], [(1000994, ⟨58, .prod (.int .i64) (.sl 155 (.int .u64)), y0, 99, none⟩), (1000995, ⟨2, .int .i64, y1, 99, none⟩)], [(31, ⟨147, [.dat 2 (.int .i64) y2, .dat 123 Y15 y3, .own 1000994, .own 1000995, .int .i64 y4, .int .i64 y5, .bool y6], false⟩)], [], []⟩)
theorem Z39.l6_ok : ∀ n v K, Z39.l6.u n v K -> loopM C X0 n 34 6 (Z39.l6.s.fill v) K :=
 loop_tell hX (fn := Try.f34) (c := bodyOf Try.f34) (a := loopOf Try.f34 6) (li := liOf (C.fi 34).loops 6) (by kernel_rfl) (by kernel_rfl) (of_decide_eq_true rfl) (by kernel_rfl) (by kernel_rfl) (T := Z39.l6.s) (u := Z39.l6.u) (fun _ _ h => h) (call := D52) (lp := fun n => noL) (D52_ok hX) (fun n => noL_ok) (fun n v K => by kernel_rfl)
theorem Z39.l20_ok : ∀ n v K, Z39.l20.u n v K -> loopM C X0 n 34 20 (Z39.l20.s.fill v) K :=
 loop_tell hX (fn := Try.f34) (c := bodyOf Try.f34) (a := loopOf Try.f34 20) (li := liOf (C.fi 34).loops 20) (by kernel_rfl) (by kernel_rfl) (of_decide_eq_true rfl) (by kernel_rfl) (by kernel_rfl) (T := Z39.l20.s) (u := Z39.l20.u) (fun _ _ h => h) (call := D52) (lp := fun n => noL) (D52_ok hX) (fun n => noL_ok) (fun n v K => by kernel_rfl)
theorem Z39.l16_ok : ∀ n v K, Z39.l16.u n v K -> loopM C X0 n 34 16 (Z39.l16.s.fill v) K :=
 loop_tell hX (fn := Try.f34) (c := bodyOf Try.f34) (a := loopOf Try.f34 16) (li := liOf (C.fi 34).loops 16) (by kernel_rfl) (by kernel_rfl) (of_decide_eq_true rfl) (by kernel_rfl) (by kernel_rfl) (T := Z39.l16.s) (u := Z39.l16.u) (fun _ _ h => h) (call := D52) (lp := fun n => orL 20 Z39.l20.s (Z39.l20.u n) noL) (D52_ok hX) (fun n => (orL_ok (Z39.l20_ok hX n) noL_ok)) (fun n v K => by kernel_rfl)
theorem Z39_ok : ∀ n v K, Z39.u n v K -> callM C X0 n 34 (fillA Z39.a v) K :=
 call_tell hX (fn := Try.f34) (c := bodyOf Try.f34) (by kernel_rfl) (by kernel_rfl) (A := Z39.a) (u := Z39.u) (fun _ _ h => h) (call := D52) (lp := fun n => orL 6 Z39.l6.s (Z39.l6.u n) (orL 16 Z39.l16.s (Z39.l16.u n) noL)) (D52_ok hX) (fun n => (orL_ok (Z39.l6_ok hX n) (orL_ok (Z39.l16_ok hX n) noL_ok))) (fun n v K => by kernel_rfl)
def D53 (n : Nat) : CallF := orC 34 Z39.a (Z39.u n) (D52 n)
theorem D53_ok : ∀ n g a K, D53 n g a K -> callM C X0 n g a K := fun n => orC_ok (Z39_ok hX n) (D52_ok hX n)
abbrev Z14.a : List TS := [.a [.o (.dat 2 (.int .i64)), .o (.dat 123 Y15)], .c (.o (.int .i64))]
def Z14.u (n : Nat) (v : VA Z14.a) (K : RES -> Prop) : Prop := Z14.c n v.1.1 v.1.2.1 v.2.1 (fun r0 r1 r2 r3 r4 r5 r6 => K ⟨.c (.boxr 217 [.dat 2 (.int .i64) r0, .dat 123 Y15 r1, .row ⟨157, .prod (.sl 2 (.int .i64)) (.sl 58 Y19), r2, 2, none⟩, .row ⟨2, .int .i64, r3, 99, none⟩, .row ⟨58, .prod (.int .i64) (.sl 155 (.int .u64)), r4, 99, none⟩, .int .i64 r5, .int .i64 r6]), []⟩)
abbrev Z14.l3.s : ST := ⟨[(5, .c (.o (.pbox 17 0))), (19, .c (.o (.dat 2 (.int .i64)))), (20, .c (.o (.int .i64))), (21, .c (.o (.int .i64)))], [⟨320, 157, .prod (.sl 2 (.int .i64)) (.sl 58 Y19), 2⟩, ⟨448, 58, .prod (.int .i64) (.sl 155 (.int .u64)), 99⟩, ⟨1000547, 2, .int .i64, 99⟩], [⟨17, 217, [.o (.dat 2 (.int .i64)), .o (.dat 123 Y15), .o (.own 320), .o (.own 1000547), .o (.own 448), .o (.int .i64), .o (.int .i64)], false⟩], [], []⟩
def Z14.l3.u (n : Nat) (v : Z14.l3.s.V) (K : X -> St -> Prop) : Prop := Z14.l3 n v.1.2.1 v.1.2.2.1 v.2.1.1 v.2.1.2.1 v.2.2.1.1 v.2.2.1.2.1 v.2.2.1.2.2.2.2.2.1 v.2.2.1.2.2.2.2.2.2.1 v.1.2.2.2.1 v.2.1.2.2.1 (fun y0 y1 y2 y3 y4 y5 y6 => K (.exit 0) ⟨[(5, .c (.pbox 17 0))], [(320, ⟨157, .prod (.sl 2 (.int .i64)) (.sl 58 Y19), y0, 2, none⟩), (448, ⟨58, .prod (.int .i64) (.sl 155 (.int .u64)), y1, 99, none⟩), (1000547, ⟨2, .int .i64, y2, 99, none⟩)], [(17, ⟨217, [.dat 2 (.int .i64) y3, .dat 123 Y15 y4, .own 320, .own 1000547, .own 448, .int .i64 y5, .int .i64 y6], false⟩)], [], []⟩)
theorem Z14.l3_ok : ∀ n v K, Z14.l3.u n v K -> loopM C X0 n 174 3 (Z14.l3.s.fill v) K :=
 loop_tell hX (fn := Try.f174) (c := bodyOf Try.f174) (a := loopOf Try.f174 3) (li := liOf (C.fi 174).loops 3) (by kernel_rfl) (by kernel_rfl) (of_decide_eq_true rfl) (by kernel_rfl) (by kernel_rfl) (T := Z14.l3.s) (u := Z14.l3.u) (fun _ _ h => h) (call := D53) (lp := fun n => noL) (D53_ok hX) (fun n => noL_ok) (fun n v K => by kernel_rfl)
theorem Z14_ok : ∀ n v K, Z14.u n v K -> callM C X0 n 174 (fillA Z14.a v) K :=
 call_tell hX (fn := Try.f174) (c := bodyOf Try.f174) (by kernel_rfl) (by kernel_rfl) (A := Z14.a) (u := Z14.u) (fun _ _ h => h) (call := D53) (lp := fun n => orL 3 Z14.l3.s (Z14.l3.u n) noL) (D53_ok hX) (fun n => (orL_ok (Z14.l3_ok hX n) noL_ok)) (fun n v K => by kernel_rfl)
def D54 (n : Nat) : CallF := orC 174 Z14.a (Z14.u n) (D53 n)
theorem D54_ok : ∀ n g a K, D54 n g a K -> callM C X0 n g a K := fun n => orC_ok (Z14_ok hX n) (D53_ok hX n)
abbrev Z0.a : List TS := [.c (.o (.int .i64)), .c (.o (.int .i64))]
def Z0.u (n : Nat) (v : VA Z0.a) (K : RES -> Prop) : Prop := Z0.c n v.1 v.2.1 (fun r0 r1 r2 => K ⟨.tup [.agg [.int .i64 r0, .row ⟨155, .int .u64, r1, 99, none⟩], .c (.bool r2)], []⟩)
theorem Z0_ok : ∀ n v K, Z0.u n v K -> callM C X0 n 205 (fillA Z0.a v) K :=
 call_tell hX (fn := Try.f205) (c := bodyOf Try.f205) (by kernel_rfl) (by kernel_rfl) (A := Z0.a) (u := Z0.u) (fun _ _ h => h) (call := D54) (lp := fun n => noL) (D54_ok hX) (fun n => noL_ok) (fun n v K => by kernel_rfl)
def D55 (n : Nat) : CallF := orC 205 Z0.a (Z0.u n) (D54 n)
theorem D55_ok : ∀ n g a K, D55 n g a K -> callM C X0 n g a K := fun n => orC_ok (Z0_ok hX n) (D54_ok hX n)
abbrev Z16.a : List TS := [.c (.o (.int .i64)), .c (.o (.pdat 214 (.ptr 217 Y7) 0)), .c (.o (.pdat 58 Y19 0))]
def Z16.u (n : Nat) (v : VA Z16.a) (K : RES -> Prop) : Prop := Z16.c n v.1 v.2.1 v.2.2.1 (fun r0 => K ⟨.c (.bool r0), []⟩)
theorem Z16_ok : ∀ n v K, Z16.u n v K -> callM C X0 n 207 (fillA Z16.a v) K :=
 call_tell hX (fn := Try.f207) (c := bodyOf Try.f207) (by kernel_rfl) (by kernel_rfl) (A := Z16.a) (u := Z16.u) (fun _ _ h => h) (call := D55) (lp := fun n => noL) (D55_ok hX) (fun n => noL_ok) (fun n v K => by kernel_rfl)
def D56 (n : Nat) : CallF := orC 207 Z16.a (Z16.u n) (D55 n)
theorem D56_ok : ∀ n g a K, D56 n g a K -> callM C X0 n g a K := fun n => orC_ok (Z16_ok hX n) (D55_ok hX n)
abbrev Z35.a : List TS := [.c (.o (.dat 2 (.int .i64))), .c (.fn 207 [(false, 1), (false, 1)] 0 [.pdat 214 (.ptr 217 Y7) 0, .pdat 58 Y19 0])]
def Z35.u (n : Nat) (v : VA Z35.a) (K : RES -> Prop) : Prop := Z35.c n v.1 v.2.1.1 v.2.1.2.1 (fun r0 => K ⟨.c (.int .i64 r0), []⟩)
abbrev Z35.l2.s : ST := ⟨[(0, .c (.o (.dat 2 (.int .i64)))), (1, .c (.fn 207 [(false, 1), (false, 1)] 0 [.pdat 214 (.ptr 217 Y7) 0, .pdat 58 Y19 0])), (7, .c (.o (.int .i64))), (8, .c (.o (.int .i64)))], [], [], [], []⟩
def Z35.l2.u (n : Nat) (v : Z35.l2.s.V) (K : X -> St -> Prop) : Prop := Z35.l2 n v.1.1 v.1.2.1.1 v.1.2.1.2.1 v.1.2.2.1 v.1.2.2.2.1 (K (.exit 0) ⟨[], [], [], [], []⟩) (fun y0 => K .ret ⟨[(4, .c (.int .i64 y0))], [], [], [], []⟩)
theorem Z35.l2_ok : ∀ n v K, Z35.l2.u n v K -> loopM C X0 n 223 2 (Z35.l2.s.fill v) K :=
 loop_tell hX (fn := Try.f223) (c := bodyOf Try.f223) (a := loopOf Try.f223 2) (li := liOf (C.fi 223).loops 2) (by kernel_rfl) (by kernel_rfl) (of_decide_eq_true rfl) (by kernel_rfl) (by kernel_rfl) (T := Z35.l2.s) (u := Z35.l2.u) (fun _ _ h => h) (call := D56) (lp := fun n => noL) (D56_ok hX) (fun n => noL_ok) (fun n v K => by kernel_rfl)
theorem Z35_ok : ∀ n v K, Z35.u n v K -> callM C X0 n 223 (fillA Z35.a v) K :=
 call_tell hX (fn := Try.f223) (c := bodyOf Try.f223) (by kernel_rfl) (by kernel_rfl) (A := Z35.a) (u := Z35.u) (fun _ _ h => h) (call := D56) (lp := fun n => orL 2 Z35.l2.s (Z35.l2.u n) noL) (D56_ok hX) (fun n => (orL_ok (Z35.l2_ok hX n) noL_ok)) (fun n v K => by kernel_rfl)
def D57 (n : Nat) : CallF := orC 223 Z35.a (Z35.u n) (D56 n)
theorem D57_ok : ∀ n g a K, D57 n g a K -> callM C X0 n g a K := fun n => orC_ok (Z35_ok hX n) (D56_ok hX n)
abbrev Z29.a : List TS := [.c (.o (.dat 2 (.int .i64))), .c (.fn 207 [(false, 1), (false, 1)] 0 [.pdat 214 (.ptr 217 Y7) 0, .pdat 58 Y19 0])]
def Z29.u (n : Nat) (v : VA Z29.a) (K : RES -> Prop) : Prop := Z29.c n v.1 v.2.1.1 v.2.1.2.1 (fun r0 => K ⟨.c (.bool r0), []⟩)
theorem Z29_ok : ∀ n v K, Z29.u n v K -> callM C X0 n 206 (fillA Z29.a v) K :=
 call_tell hX (fn := Try.f206) (c := bodyOf Try.f206) (by kernel_rfl) (by kernel_rfl) (A := Z29.a) (u := Z29.u) (fun _ _ h => h) (call := D57) (lp := fun n => noL) (D57_ok hX) (fun n => noL_ok) (fun n v K => by kernel_rfl)
def D58 (n : Nat) : CallF := orC 206 Z29.a (Z29.u n) (D57 n)
theorem D58_ok : ∀ n g a K, D58 n g a K -> callM C X0 n g a K := fun n => orC_ok (Z29_ok hX n) (D57_ok hX n)
abbrev Z15.a : List TS := [.c (.o (.pdat 217 Y7 0)), .c (.o (.int .i64)), .a [.o (.int .i64), .o (.dat 155 (.int .u64))]]
def Z15.u (n : Nat) (v : VA Z15.a) (K : RES -> Prop) : Prop := Z15.c n v.1 v.2.1 v.2.2.1.1 v.2.2.1.2.1 (fun r0 => K ⟨.c (.bool r0), []⟩)
theorem Z15_ok : ∀ n v K, Z15.u n v K -> callM C X0 n 177 (fillA Z15.a v) K :=
 call_tell hX (fn := Try.f177) (c := bodyOf Try.f177) (by kernel_rfl) (by kernel_rfl) (A := Z15.a) (u := Z15.u) (fun _ _ h => h) (call := D58) (lp := fun n => noL) (D58_ok hX) (fun n => noL_ok) (fun n v K => by kernel_rfl)
def D59 (n : Nat) : CallF := orC 177 Z15.a (Z15.u n) (D58 n)
theorem D59_ok : ∀ n g a K, D59 n g a K -> callM C X0 n g a K := fun n => orC_ok (Z15_ok hX n) (D58_ok hX n)
abbrev Z17.a : List TS := [.c (.boxr 217 [.dat 2 (.int .i64), .dat 123 Y15, .row 157 Y16 2, .row 2 (.int .i64) 99, .row 58 Y19 99, .int .i64, .int .i64]), .c (.o (.int .i64))]
def Z17.u (n : Nat) (v : VA Z17.a) (K : RES -> Prop) : Prop := Z17.c n v.1.1 v.1.2.1 v.1.2.2.1 v.1.2.2.2.1 v.1.2.2.2.2.1 v.1.2.2.2.2.2.1 v.1.2.2.2.2.2.2.1 v.2.1 (fun r0 r1 r2 r3 r4 r5 r6 r7 => K ⟨.c (.int .i64 r0), [[.boxr 217 [.dat 2 (.int .i64) r1, .dat 123 Y15 r2, .row ⟨157, .prod (.sl 2 (.int .i64)) (.sl 58 Y19), r3, 2, none⟩, .row ⟨2, .int .i64, r4, 99, none⟩, .row ⟨58, .prod (.int .i64) (.sl 155 (.int .u64)), r5, 99, none⟩, .int .i64 r6, .int .i64 r7]]]⟩)
abbrev Z17.l9.s : ST := ⟨[(0, .c (.o (.pbox 0 0))), (1, .c (.o (.int .i64))), (5, .c (.o (.int .i64))), (6, .c (.o (.int .i64))), (50, .c (.o (.int .i64))), (51, .c (.o (.int .i64)))], [⟨1000002, 157, .prod (.sl 2 (.int .i64)) (.sl 58 Y19), 2⟩, ⟨1000003, 2, .int .i64, 99⟩, ⟨1000004, 58, .prod (.int .i64) (.sl 155 (.int .u64)), 99⟩], [⟨0, 217, [.o (.dat 2 (.int .i64)), .o (.dat 123 Y15), .o (.own 1000002), .o (.own 1000003), .o (.own 1000004), .o (.int .i64), .o (.int .i64)], false⟩], [], [0]⟩
def Z17.l9.u (n : Nat) (v : Z17.l9.s.V) (K : X -> St -> Prop) : Prop := Z17.l9 n v.1.2.1 v.1.2.2.1 v.1.2.2.2.1 v.1.2.2.2.2.1 v.1.2.2.2.2.2.1 v.2.1.1 v.2.1.2.1 v.2.1.2.2.1 v.2.2.1.1 v.2.2.1.2.1 v.2.2.1.2.2.2.2.2.1 v.2.2.1.2.2.2.2.2.2.1 (fun y0 y1 y2 y3 y4 y5 y6 => K (.exit 0) ⟨[], [(1000002, ⟨157, .prod (.sl 2 (.int .i64)) (.sl 58 Y19), y0, 2, none⟩), (1000003, ⟨2, .int .i64, y1, 99, none⟩), (1000004, ⟨58, .prod (.int .i64) (.sl 155 (.int .u64)), y2, 99, none⟩)], [(0, ⟨217, [.dat 2 (.int .i64) y3, .dat 123 Y15 y4, .own 1000002, .own 1000003, .own 1000004, .int .i64 y5, .int .i64 y6], false⟩)], [], [0]⟩) (fun y0 y1 y2 y3 y4 y5 y6 y7 => K .ret ⟨[(4, .c (.int .i64 y0))], [(1000002, ⟨157, .prod (.sl 2 (.int .i64)) (.sl 58 Y19), y1, 2, none⟩), (1000003, ⟨2, .int .i64, y2, 99, none⟩), (1000004, ⟨58, .prod (.int .i64) (.sl 155 (.int .u64)), y3, 99, none⟩)], [(0, ⟨217, [.dat 2 (.int .i64) y4, .dat 123 Y15 y5, .own 1000002, .own 1000003, .own 1000004, .int .i64 y6, .int .i64 y7], false⟩)], [], [0]⟩)
theorem Z17_all : ∀ n, (∀ v K, Z17.u n v K -> callM C X0 n 175 (fillA Z17.a v) K) /\ (∀ v K, Z17.l9.u n v K -> loopM C X0 n 175 9 (Z17.l9.s.fill v) K) /\ True
 | 0 => ⟨fun _ _ h => h.elim, fun _ _ h => h.elim, trivial⟩
 | n + 1 => have ih := Z17_all n
  ⟨fun v K h => call_of hX (fn := Try.f175) (c := bodyOf Try.f175) (by kernel_rfl) (by kernel_rfl) (call := (orC 175 Z17.a (Z17.u n) (D59 n))) (lp := orL 9 Z17.l9.s (Z17.l9.u n) noL) (orC_ok ih.1 (D59_ok hX n)) (orL_ok (ih.2.1) noL_ok) (P := Z17.u (n + 1) v K) (by kernel_rfl) h,
  fun v K h => loop_of hX (fn := Try.f175) (c := bodyOf Try.f175) (a := loopOf Try.f175 9) (li := liOf (C.fi 175).loops 9) (by kernel_rfl) (by kernel_rfl) (of_decide_eq_true rfl) (by kernel_rfl) (by kernel_rfl) (call := (orC 175 Z17.a (Z17.u n) (D59 n))) (lp := noL) (again := fitK Z17.l9.s fun v' => Z17.l9.u n v' K) (orC_ok ih.1 (D59_ok hX n)) noL_ok (fitK_ok fun v' h' => ih.2.1 v' K h') (P := Z17.l9.u (n + 1) v K) (by kernel_rfl) h, trivial⟩
theorem Z17_ok : ∀ n v K, Z17.u n v K -> callM C X0 n 175 (fillA Z17.a v) K := fun n => (Z17_all hX n).1
def D60 (n : Nat) : CallF := orC 175 Z17.a (Z17.u n) (D59 n)
theorem D60_ok : ∀ n g a K, D60 n g a K -> callM C X0 n g a K := fun n => orC_ok (Z17_ok hX n) (D59_ok hX n)
abbrev Z24.a : List TS := [.c (.o (.int .u64))]
def Z24.u (n : Nat) (v : VA Z24.a) (K : RES -> Prop) : Prop := Z24.c n v.1 (fun r0 => K ⟨.c (.int .i64 r0), []⟩)
theorem Z24_ok : ∀ n v K, Z24.u n v K -> callM C X0 n 122 (fillA Z24.a v) K :=
 call_tell hX (fn := Try.f122) (c := bodyOf Try.f122) (by kernel_rfl) (by kernel_rfl) (A := Z24.a) (u := Z24.u) (fun _ _ h => h) (call := D60) (lp := fun n => noL) (D60_ok hX) (fun n => noL_ok) (fun n v K => by kernel_rfl)
def D61 (n : Nat) : CallF := orC 122 Z24.a (Z24.u n) (D60 n)
theorem D61_ok : ∀ n g a K, D61 n g a K -> callM C X0 n g a K := fun n => orC_ok (Z24_ok hX n) (D60_ok hX n)
abbrev Z6.a : List TS := [.a [.o (.int .i64), .o (.dat 155 (.int .u64))]]
def Z6.u (n : Nat) (v : VA Z6.a) (K : RES -> Prop) : Prop := Z6.c n v.1.1 v.1.2.1 (fun r0 => K ⟨.c (.int .i64 r0), []⟩)
abbrev Z6.l5.s : ST := ⟨[(3, .c (.o (.int .i64))), (10, .c (.o (.dat 155 (.int .u64)))), (11, .c (.o (.int .i64))), (12, .c (.o (.int .i64)))], [], [], [], []⟩
def Z6.l5.u (n : Nat) (v : Z6.l5.s.V) (K : X -> St -> Prop) : Prop := Z6.l5 n v.1.2.1 v.1.2.2.1 v.1.1 v.1.2.2.2.1 (fun y0 => K (.exit 0) ⟨[(3, .c (.int .i64 y0))], [], [], [], []⟩)
theorem Z6.l5_ok : ∀ n v K, Z6.l5.u n v K -> loopM C X0 n 47 5 (Z6.l5.s.fill v) K :=
 loop_tell hX (fn := Try.f47) (c := bodyOf Try.f47) (a := loopOf Try.f47 5) (li := liOf (C.fi 47).loops 5) (by kernel_rfl) (by kernel_rfl) (of_decide_eq_true rfl) (by kernel_rfl) (by kernel_rfl) (T := Z6.l5.s) (u := Z6.l5.u) (fun _ _ h => h) (call := D61) (lp := fun n => noL) (D61_ok hX) (fun n => noL_ok) (fun n v K => by kernel_rfl)
theorem Z6_ok : ∀ n v K, Z6.u n v K -> callM C X0 n 47 (fillA Z6.a v) K :=
 call_tell hX (fn := Try.f47) (c := bodyOf Try.f47) (by kernel_rfl) (by kernel_rfl) (A := Z6.a) (u := Z6.u) (fun _ _ h => h) (call := D61) (lp := fun n => orL 5 Z6.l5.s (Z6.l5.u n) noL) (D61_ok hX) (fun n => (orL_ok (Z6.l5_ok hX n) noL_ok)) (fun n v K => by kernel_rfl)
def D62 (n : Nat) : CallF := orC 47 Z6.a (Z6.u n) (D61 n)
theorem D62_ok : ∀ n g a K, D62 n g a K -> callM C X0 n g a K := fun n => orC_ok (Z6_ok hX n) (D61_ok hX n)
abbrev Z9.a : List TS := [.a [.o (.int .i64), .o (.dat 155 (.int .u64))]]
def Z9.u (n : Nat) (v : VA Z9.a) (K : RES -> Prop) : Prop := Z9.c n v.1.1 v.1.2.1 (fun r0 r1 r2 => K ⟨.tup [.agg [.int .i64 r0, .row ⟨155, .int .u64, r1, 99, none⟩], .c (.bool r2)], []⟩)
abbrev Z9.l5.s : ST := ⟨[(2, .c (.o (.pbox 2 0))), (4, .c (.o (.pbox 4 0))), (21, .c (.o (.int .i64))), (22, .c (.o (.int .i64)))], [⟨577, 155, .int .u64, 99⟩, ⟨1000065, 155, .int .u64, 99⟩], [⟨2, 58, [.o (.int .i64), .o (.own 1000065)], false⟩, ⟨4, 58, [.o (.int .i64), .o (.own 577)], false⟩], [], []⟩
def Z9.l5.u (n : Nat) (v : Z9.l5.s.V) (K : X -> St -> Prop) : Prop := Z9.l5 n v.1.2.2.1 v.2.1.2.1 v.2.2.1.1 v.2.2.2.1.1 v.1.2.2.2.1 v.2.1.1 (fun y0 y1 y2 y3 => K (.exit 0) ⟨[(2, .c (.pbox 2 0)), (4, .c (.pbox 4 0))], [(577, ⟨155, .int .u64, y0, 99, none⟩), (1000065, ⟨155, .int .u64, y1, 99, none⟩)], [(2, ⟨58, [.int .i64 y2, .own 1000065], false⟩), (4, ⟨58, [.int .i64 y3, .own 577], false⟩)], [], []⟩)
theorem Z9.l5_ok : ∀ n v K, Z9.l5.u n v K -> loopM C X0 n 178 5 (Z9.l5.s.fill v) K :=
 loop_tell hX (fn := Try.f178) (c := bodyOf Try.f178) (a := loopOf Try.f178 5) (li := liOf (C.fi 178).loops 5) (by kernel_rfl) (by kernel_rfl) (of_decide_eq_true rfl) (by kernel_rfl) (by kernel_rfl) (T := Z9.l5.s) (u := Z9.l5.u) (fun _ _ h => h) (call := D62) (lp := fun n => noL) (D62_ok hX) (fun n => noL_ok) (fun n v K => by kernel_rfl)
theorem Z9_ok : ∀ n v K, Z9.u n v K -> callM C X0 n 178 (fillA Z9.a v) K :=
 call_tell hX (fn := Try.f178) (c := bodyOf Try.f178) (by kernel_rfl) (by kernel_rfl) (A := Z9.a) (u := Z9.u) (fun _ _ h => h) (call := D62) (lp := fun n => orL 5 Z9.l5.s (Z9.l5.u n) noL) (D62_ok hX) (fun n => (orL_ok (Z9.l5_ok hX n) noL_ok)) (fun n v K => by kernel_rfl)
def D63 (n : Nat) : CallF := orC 178 Z9.a (Z9.u n) (D62 n)
theorem D63_ok : ∀ n g a K, D63 n g a K -> callM C X0 n g a K := fun n => orC_ok (Z9_ok hX n) (D62_ok hX n)
abbrev Z12.a : List TS := [.a [.o (.dat 2 (.int .i64)), .o (.dat 123 Y15)], .c (.o (.int .i64))]
def Z12.u (n : Nat) (v : VA Z12.a) (K : RES -> Prop) : Prop := Z12.c n v.1.1 v.1.2.1 v.2.1 (fun r0 r1 r2 => K ⟨.tup [.c (.row ⟨58, .prod (.int .i64) (.sl 155 (.int .u64)), r0, 99, none⟩), .c (.int .i64 r1), .c (.int .i64 r2)], []⟩)
abbrev Z12.l12.s : ST := ⟨[(7, .c (.o (.pbox 13 0))), (8, .c (.o (.int .i64))), (10, .c (.o (.pbox 10 0))), (26, .c (.o (.dat 2 (.int .i64)))), (27, .c (.o (.int .i64))), (28, .c (.o (.int .i64)))], [⟨1000321, 155, .int .u64, 99⟩, ⟨1000418, 157, .prod (.sl 2 (.int .i64)) (.sl 58 Y19), 2⟩, ⟨1000419, 2, .int .i64, 99⟩, ⟨1000420, 58, .prod (.int .i64) (.sl 155 (.int .u64)), 99⟩], [⟨10, 58, [.o (.int .i64), .o (.own 1000321)], false⟩, ⟨13, 217, [.o (.dat 2 (.int .i64)), .o (.dat 123 Y15), .o (.own 1000418), .o (.own 1000419), .o (.own 1000420), .o (.int .i64), .o (.int .i64)], false⟩], [], []⟩
def Z12.l12.u (n : Nat) (v : Z12.l12.s.V) (K : X -> St -> Prop) : Prop := Z12.l12 n v.1.2.1 v.1.2.2.2.1 v.1.2.2.2.2.1 v.1.2.2.2.2.2.1 v.2.1.2.1 v.2.1.2.2.1 v.2.1.2.2.2.1 v.2.2.2.1.1 v.2.2.2.1.2.1 v.2.2.2.1.2.2.2.2.2.1 v.2.2.2.1.2.2.2.2.2.2.1 v.2.1.1 v.2.2.1.1 (fun y0 y1 y2 y3 y4 y5 y6 y7 y8 y9 y10 y11 y12 => K (.exit 3) ⟨[(7, .c (.pbox 13 0)), (8, .c (.int .i64 y0)), (10, .c (.pbox 10 0)), (26, .c (.dat 2 (.int .i64) y1)), (27, .c (.int .i64 y2)), (28, .c (.int .i64 y3))], [(1000321, ⟨155, .int .u64, y4, 99, none⟩), (1000418, ⟨157, .prod (.sl 2 (.int .i64)) (.sl 58 Y19), y5, 2, none⟩), (1000419, ⟨2, .int .i64, y6, 99, none⟩), (1000420, ⟨58, .prod (.int .i64) (.sl 155 (.int .u64)), y7, 99, none⟩)], [(10, ⟨58, [.int .i64 y8, .own 1000321], false⟩), (13, ⟨217, [.dat 2 (.int .i64) y9, .dat 123 Y15 y10, .own 1000418, .own 1000419, .own 1000420, .int .i64 y11, .int .i64 y12], false⟩)], [], []⟩)
abbrev Z12.l8.s : ST := ⟨[(7, .c (.o (.pbox 13 0))), (26, .c (.o (.dat 2 (.int .i64)))), (27, .c (.o (.int .i64))), (28, .c (.o (.int .i64)))], [⟨1000418, 157, .prod (.sl 2 (.int .i64)) (.sl 58 Y19), 2⟩, ⟨1000419, 2, .int .i64, 99⟩, ⟨1000420, 58, .prod (.int .i64) (.sl 155 (.int .u64)), 99⟩], [⟨13, 217, [.o (.dat 2 (.int .i64)), .o (.dat 123 Y15), .o (.own 1000418), .o (.own 1000419), .o (.own 1000420), .o (.int .i64), .o (.int .i64)], false⟩], [], []⟩
def Z12.l8.u (n : Nat) (v : Z12.l8.s.V) (K : X -> St -> Prop) : Prop := Z12.l8 n v.1.2.1 v.1.2.2.1 v.1.2.2.2.1 v.2.1.1 v.2.1.2.1 v.2.1.2.2.1 v.2.2.1.1 v.2.2.1.2.1 v.2.2.1.2.2.2.2.2.1 v.2.2.1.2.2.2.2.2.2.1 (fun y0 y1 y2 y3 y4 y5 y6 => K (.exit 1) ⟨[(7, .c (.pbox 13 0))], [(1000418, ⟨157, .prod (.sl 2 (.int .i64)) (.sl 58 Y19), y0, 2, none⟩), (1000419, ⟨2, .int .i64, y1, 99, none⟩), (1000420, ⟨58, .prod (.int .i64) (.sl 155 (.int .u64)), y2, 99, none⟩)], [(13, ⟨217, [.dat 2 (.int .i64) y3, .dat 123 Y15 y4, .own 1000418, .own 1000419, .own 1000420, .int .i64 y5, .int .i64 y6], false⟩)], [], []⟩)
theorem Z12.l12_ok : ∀ n v K, Z12.l12.u n v K -> loopM C X0 n 109 12 (Z12.l12.s.fill v) K :=
 loop_tell hX (fn := Try.f109) (c := bodyOf Try.f109) (a := loopOf Try.f109 12) (li := liOf (C.fi 109).loops 12) (by kernel_rfl) (by kernel_rfl) (of_decide_eq_true rfl) (by kernel_rfl) (by kernel_rfl) (T := Z12.l12.s) (u := Z12.l12.u) (fun _ _ h => h) (call := D63) (lp := fun n => noL) (D63_ok hX) (fun n => noL_ok) (fun n v K => by kernel_rfl)
theorem Z12.l8_ok : ∀ n v K, Z12.l8.u n v K -> loopM C X0 n 109 8 (Z12.l8.s.fill v) K :=
 loop_tell hX (fn := Try.f109) (c := bodyOf Try.f109) (a := loopOf Try.f109 8) (li := liOf (C.fi 109).loops 8) (by kernel_rfl) (by kernel_rfl) (of_decide_eq_true rfl) (by kernel_rfl) (by kernel_rfl) (T := Z12.l8.s) (u := Z12.l8.u) (fun _ _ h => h) (call := D63) (lp := fun n => orL 12 Z12.l12.s (Z12.l12.u n) noL) (D63_ok hX) (fun n => (orL_ok (Z12.l12_ok hX n) noL_ok)) (fun n v K => by kernel_rfl)
theorem Z12_ok : ∀ n v K, Z12.u n v K -> callM C X0 n 109 (fillA Z12.a v) K :=
 call_tell hX (fn := Try.f109) (c := bodyOf Try.f109) (by kernel_rfl) (by kernel_rfl) (A := Z12.a) (u := Z12.u) (fun _ _ h => h) (call := D63) (lp := fun n => orL 8 Z12.l8.s (Z12.l8.u n) noL) (D63_ok hX) (fun n => (orL_ok (Z12.l8_ok hX n) noL_ok)) (fun n v K => by kernel_rfl)
def D64 (n : Nat) : CallF := orC 109 Z12.a (Z12.u n) (D63 n)
theorem D64_ok : ∀ n g a K, D64 n g a K -> callM C X0 n g a K := fun n => orC_ok (Z12_ok hX n) (D63_ok hX n)
abbrev Z3.a : List TS := [.a [.o (.dat 2 (.int .i64)), .o (.dat 123 Y15)], .c (.o (.int .i64))]
def Z3.u (n : Nat) (v : VA Z3.a) (K : RES -> Prop) : Prop := Z3.c n v.1.1 v.1.2.1 v.2.1 (fun r0 r1 r2 => K ⟨.tup [.c (.row ⟨58, .prod (.int .i64) (.sl 155 (.int .u64)), r0, 99, none⟩), .c (.int .i64 r1), .c (.int .i64 r2)], []⟩)
theorem Z3_ok : ∀ n v K, Z3.u n v K -> callM C X0 n 35 (fillA Z3.a v) K :=
 call_tell hX (fn := Try.f35) (c := bodyOf Try.f35) (by kernel_rfl) (by kernel_rfl) (A := Z3.a) (u := Z3.u) (fun _ _ h => h) (call := D64) (lp := fun n => noL) (D64_ok hX) (fun n => noL_ok) (fun n v K => by kernel_rfl)
def D65 (n : Nat) : CallF := orC 35 Z3.a (Z3.u n) (D64 n)
theorem D65_ok : ∀ n g a K, D65 n g a K -> callM C X0 n g a K := fun n => orC_ok (Z3_ok hX n) (D64_ok hX n)
abbrev Z54.a : List TS := [.c (.boxr 210 [.dat 5 (.int .u8), .int .i64])]
def Z54.u (n : Nat) (v : VA Z54.a) (K : RES -> Prop) : Prop := Z54.c n v.1.1 v.1.2.1 (fun r0 r1 r2 r3 => K ⟨.agg [.row ⟨2, .int .i64, r0, 99, none⟩, .row ⟨123, .prod (.int .i64) Y18, r1, 99, none⟩], [[.boxr 210 [.dat 5 (.int .u8) r2, .int .i64 r3]]]⟩)
abbrev Z54.l5.s : ST := ⟨[(0, .c (.o (.pbox 0 0))), (2, .c (.o (.pbox 2 0))), (3, .c (.o (.pbox 3 0))), (4, .c (.o (.int .i64))), (5, .c (.o (.int .i64))), (6, .c (.o (.int .i64)))], [⟨353, 123, .prod (.int .i64) Y18, 99⟩, ⟨1000064, 2, .int .i64, 99⟩, ⟨1000065, 123, .prod (.int .i64) Y18, 99⟩, ⟨1000096, 2, .int .i64, 99⟩], [⟨0, 210, [.o (.dat 5 (.int .u8)), .o (.int .i64)], false⟩, ⟨2, 42, [.o (.own 1000064), .o (.own 1000065)], false⟩, ⟨3, 42, [.o (.own 1000096), .o (.own 353)], false⟩], [], [0]⟩
def Z54.l5.u (n : Nat) (v : Z54.l5.s.V) (K : X -> St -> Prop) : Prop := Z54.l5 n v.1.2.2.2.2.1 v.2.1.1 v.2.1.2.1 v.2.1.2.2.1 v.1.2.2.2.1 v.1.2.2.2.2.2.1 v.2.1.2.2.2.1 v.2.2.1.1 v.2.2.1.2.1 (fun y0 y1 y2 y3 y4 y5 y6 => K (.exit 0) ⟨[(0, .c (.pbox 0 0)), (2, .c (.pbox 2 0)), (3, .c (.pbox 3 0)), (5, .c (.int .i64 y0))], [(353, ⟨123, .prod (.int .i64) Y18, y1, 99, none⟩), (1000064, ⟨2, .int .i64, y2, 99, none⟩), (1000065, ⟨123, .prod (.int .i64) Y18, y3, 99, none⟩), (1000096, ⟨2, .int .i64, y4, 99, none⟩)], [(0, ⟨210, [.dat 5 (.int .u8) y5, .int .i64 y6], false⟩), (2, ⟨42, [.own 1000064, .own 1000065], false⟩), (3, ⟨42, [.own 1000096, .own 353], false⟩)], [], [0]⟩)
abbrev Z54.l13.s : ST := ⟨[(0, .c (.o (.pbox 0 0))), (2, .c (.o (.pbox 2 0))), (3, .c (.o (.pbox 3 0))), (5, .c (.o (.int .i64))), (7, .c (.o (.int .i64)))], [⟨1000064, 2, .int .i64, 99⟩, ⟨1000065, 123, .prod (.int .i64) Y18, 99⟩, ⟨1000096, 2, .int .i64, 99⟩, ⟨1000097, 123, .prod (.int .i64) Y18, 99⟩], [⟨0, 210, [.o (.dat 5 (.int .u8)), .o (.int .i64)], false⟩, ⟨2, 42, [.o (.own 1000064), .o (.own 1000065)], false⟩, ⟨3, 42, [.o (.own 1000096), .o (.own 1000097)], false⟩], [], [0]⟩
def Z54.l13.u (n : Nat) (v : Z54.l13.s.V) (K : X -> St -> Prop) : Prop := Z54.l13 n v.1.2.2.2.1 v.2.1.1 v.2.1.2.1 v.2.1.2.2.1 v.1.2.2.2.2.1 v.2.1.2.2.2.1 v.2.2.1.1 v.2.2.1.2.1 (fun y0 y1 y2 y3 y4 y5 y6 => K (.exit 2) ⟨[(0, .c (.pbox 0 0)), (2, .c (.pbox 2 0)), (3, .c (.pbox 3 0)), (5, .c (.int .i64 y0))], [(1000064, ⟨2, .int .i64, y1, 99, none⟩), (1000065, ⟨123, .prod (.int .i64) Y18, y2, 99, none⟩), (1000096, ⟨2, .int .i64, y3, 99, none⟩), (1000097, ⟨123, .prod (.int .i64) Y18, y4, 99, none⟩)], [(0, ⟨210, [.dat 5 (.int .u8) y5, .int .i64 y6], false⟩), (2, ⟨42, [.own 1000064, .own 1000065], false⟩), (3, ⟨42, [.own 1000096, .own 1000097], false⟩)], [], [0]⟩)
abbrev Z54.l29.s : ST := ⟨[(2, .c (.o (.pbox 2 0))), (3, .c (.o (.pbox 3 0))), (10, .c (.o (.int .i64)))], [⟨4480, 2, .int .i64, 99⟩, ⟨1000064, 2, .int .i64, 99⟩, ⟨1000065, 123, .prod (.int .i64) Y18, 99⟩, ⟨1000097, 123, .prod (.int .i64) Y18, 99⟩], [⟨0, 210, [.o (.dat 5 (.int .u8)), .o (.int .i64)], false⟩, ⟨2, 42, [.o (.own 1000064), .o (.own 1000065)], false⟩, ⟨3, 42, [.o (.own 4480), .o (.own 1000097)], false⟩], [], [0]⟩
def Z54.l29.u (n : Nat) (v : Z54.l29.s.V) (K : X -> St -> Prop) : Prop := Z54.l29 n v.2.1.2.1 v.2.1.2.2.1 v.2.1.2.2.2.1 v.2.2.1.1 v.2.2.1.2.1 v.1.2.2.1 v.2.1.1 (fun y0 y1 y2 y3 y4 y5 => K (.exit 5) ⟨[(2, .c (.pbox 2 0)), (3, .c (.pbox 3 0))], [(4480, ⟨2, .int .i64, y0, 99, none⟩), (1000064, ⟨2, .int .i64, y1, 99, none⟩), (1000065, ⟨123, .prod (.int .i64) Y18, y2, 99, none⟩), (1000097, ⟨123, .prod (.int .i64) Y18, y3, 99, none⟩)], [(0, ⟨210, [.dat 5 (.int .u8) y4, .int .i64 y5], false⟩), (2, ⟨42, [.own 1000064, .own 1000065], false⟩), (3, ⟨42, [.own 4480, .own 1000097], false⟩)], [], [0]⟩)
abbrev Z54.l34.s : ST := ⟨[(0, .c (.o (.pbox 0 0))), (2, .c (.o (.pbox 2 0))), (3, .c (.o (.pbox 3 0))), (5, .c (.o (.int .i64)))], [⟨1000064, 2, .int .i64, 99⟩, ⟨1000065, 123, .prod (.int .i64) Y18, 99⟩, ⟨1000096, 2, .int .i64, 99⟩, ⟨1000097, 123, .prod (.int .i64) Y18, 99⟩], [⟨0, 210, [.o (.dat 5 (.int .u8)), .o (.int .i64)], false⟩, ⟨2, 42, [.o (.own 1000064), .o (.own 1000065)], false⟩, ⟨3, 42, [.o (.own 1000096), .o (.own 1000097)], false⟩], [], [0]⟩
def Z54.l34.u (n : Nat) (v : Z54.l34.s.V) (K : X -> St -> Prop) : Prop := Z54.l34 n v.1.2.2.2.1 v.2.1.1 v.2.1.2.1 v.2.1.2.2.1 v.2.1.2.2.2.1 v.2.2.1.1 v.2.2.1.2.1 (fun y0 y1 y2 y3 y4 y5 => K (.exit 7) ⟨[(2, .c (.pbox 2 0)), (3, .c (.pbox 3 0))], [(1000064, ⟨2, .int .i64, y0, 99, none⟩), (1000065, ⟨123, .prod (.int .i64) Y18, y1, 99, none⟩), (1000096, ⟨2, .int .i64, y2, 99, none⟩), (1000097, ⟨123, .prod (.int .i64) Y18, y3, 99, none⟩)], [(0, ⟨210, [.dat 5 (.int .u8) y4, .int .i64 y5], false⟩), (2, ⟨42, [.own 1000064, .own 1000065], false⟩), (3, ⟨42, [.own 1000096, .own 1000097], false⟩)], [], [0]⟩)
theorem Z54.l5_ok : ∀ n v K, Z54.l5.u n v K -> loopM C X0 n 100 5 (Z54.l5.s.fill v) K :=
 loop_tell hX (fn := Try.f100) (c := bodyOf Try.f100) (a := loopOf Try.f100 5) (li := liOf (C.fi 100).loops 5) (by kernel_rfl) (by kernel_rfl) (of_decide_eq_true rfl) (by kernel_rfl) (by kernel_rfl) (T := Z54.l5.s) (u := Z54.l5.u) (fun _ _ h => h) (call := D65) (lp := fun n => noL) (D65_ok hX) (fun n => noL_ok) (fun n v K => by kernel_rfl)
theorem Z54.l13_ok : ∀ n v K, Z54.l13.u n v K -> loopM C X0 n 100 13 (Z54.l13.s.fill v) K :=
 loop_tell hX (fn := Try.f100) (c := bodyOf Try.f100) (a := loopOf Try.f100 13) (li := liOf (C.fi 100).loops 13) (by kernel_rfl) (by kernel_rfl) (of_decide_eq_true rfl) (by kernel_rfl) (by kernel_rfl) (T := Z54.l13.s) (u := Z54.l13.u) (fun _ _ h => h) (call := D65) (lp := fun n => noL) (D65_ok hX) (fun n => noL_ok) (fun n v K => by kernel_rfl)
theorem Z54.l29_ok : ∀ n v K, Z54.l29.u n v K -> loopM C X0 n 100 29 (Z54.l29.s.fill v) K :=
 loop_tell hX (fn := Try.f100) (c := bodyOf Try.f100) (a := loopOf Try.f100 29) (li := liOf (C.fi 100).loops 29) (by kernel_rfl) (by kernel_rfl) (of_decide_eq_true rfl) (by kernel_rfl) (by kernel_rfl) (T := Z54.l29.s) (u := Z54.l29.u) (fun _ _ h => h) (call := D65) (lp := fun n => noL) (D65_ok hX) (fun n => noL_ok) (fun n v K => by kernel_rfl)
theorem Z54.l34_ok : ∀ n v K, Z54.l34.u n v K -> loopM C X0 n 100 34 (Z54.l34.s.fill v) K :=
 loop_tell hX (fn := Try.f100) (c := bodyOf Try.f100) (a := loopOf Try.f100 34) (li := liOf (C.fi 100).loops 34) (by kernel_rfl) (by kernel_rfl) (of_decide_eq_true rfl) (by kernel_rfl) (by kernel_rfl) (T := Z54.l34.s) (u := Z54.l34.u) (fun _ _ h => h) (call := D65) (lp := fun n => noL) (D65_ok hX) (fun n => noL_ok) (fun n v K => by kernel_rfl)
theorem Z54_ok : ∀ n v K, Z54.u n v K -> callM C X0 n 100 (fillA Z54.a v) K :=
 call_tell hX (fn := Try.f100) (c := bodyOf Try.f100) (by kernel_rfl) (by kernel_rfl) (A := Z54.a) (u := Z54.u) (fun _ _ h => h) (call := D65) (lp := fun n => orL 5 Z54.l5.s (Z54.l5.u n) (orL 13 Z54.l13.s (Z54.l13.u n) (orL 29 Z54.l29.s (Z54.l29.u n) (orL 34 Z54.l34.s (Z54.l34.u n) noL)))) (D65_ok hX) (fun n => (orL_ok (Z54.l5_ok hX n) (orL_ok (Z54.l13_ok hX n) (orL_ok (Z54.l29_ok hX n) (orL_ok (Z54.l34_ok hX n) noL_ok))))) (fun n v K => by kernel_rfl)
def D66 (n : Nat) : CallF := orC 100 Z54.a (Z54.u n) (D65 n)
theorem D66_ok : ∀ n g a K, D66 n g a K -> callM C X0 n g a K := fun n => orC_ok (Z54_ok hX n) (D65_ok hX n)
end
end Go.Vsi
end

section
set_option linter.unusedVariables false
namespace Go.Vsi
open Go.Proofs
section
variable {X0 : CallF} (hX : CallF.Mono X0)
include hX
abbrev Z40.a : List TS := [.c (.o (.dat 5 (.int .u8)))]
def Z40.u (n : Nat) (v : VA Z40.a) (K : RES -> Prop) : Prop := Z40.c n v.1 (fun r0 r1 r2 => K ⟨.tup [.agg [.row ⟨2, .int .i64, r0, 99, none⟩, .row ⟨123, .prod (.int .i64) Y18, r1, 99, none⟩], .c (.int .i64 r2)], []⟩)
theorem Z40_ok : ∀ n v K, Z40.u n v K -> callM C X0 n 33 (fillA Z40.a v) K :=
 call_tell hX (fn := Try.f33) (c := bodyOf Try.f33) (by kernel_rfl) (by kernel_rfl) (A := Z40.a) (u := Z40.u) (fun _ _ h => h) (call := D66) (lp := fun n => noL) (D66_ok hX) (fun n => noL_ok) (fun n v K => by kernel_rfl)
def D67 (n : Nat) : CallF := orC 33 Z40.a (Z40.u n) (D66 n)
theorem D67_ok : ∀ n g a K, D67 n g a K -> callM C X0 n g a K := fun n => orC_ok (Z40_ok hX n) (D66_ok hX n)
abbrev laws_FnColoured.a : List TS := [.c (.o (.dat 5 (.int .u8)))]
def laws_FnColoured.u (n : Nat) (v : VA laws_FnColoured.a) (K : RES -> Prop) : Prop := laws_FnColoured.c n v.1 (fun r0 => K ⟨.c (.bool r0), []⟩)
abbrev laws_FnColoured.l14.s : ST := ⟨[(3, .c (.o (.pbox 3 0))), (11, .c (.o (.int .i64))), (12, .c (.o (.int .i64)))], [⟨768, 2, .int .i64, 99⟩, ⟨769, 123, .prod (.int .i64) Y18, 99⟩], [⟨3, 42, [.o (.own 768), .o (.own 769)], false⟩], [], []⟩
def laws_FnColoured.l14.u (n : Nat) (v : laws_FnColoured.l14.s.V) (K : X -> St -> Prop) : Prop := laws_FnColoured.l14 n v.2.1.1 v.2.1.2.1 v.1.2.1 v.1.2.2.1 (fun y0 y1 y2 => K (.exit 0) ⟨[(3, .c (.pbox 3 0)), (11, .c (.int .i64 y0))], [(768, ⟨2, .int .i64, y1, 99, none⟩), (769, ⟨123, .prod (.int .i64) Y18, y2, 99, none⟩)], [(3, ⟨42, [.own 768, .own 769], false⟩)], [], []⟩)
abbrev laws_FnColoured.l23.s : ST := ⟨[(3, .c (.o (.pbox 3 0))), (11, .c (.o (.int .i64))), (13, .c (.o (.int .i64))), (14, .c (.o (.int .i64))), (15, .c (.o (.own 480))), (16, .c (.o (.int .i64)))], [⟨480, 58, .prod (.int .i64) (.sl 155 (.int .u64)), 99⟩, ⟨768, 2, .int .i64, 99⟩, ⟨769, 123, .prod (.int .i64) Y18, 99⟩], [⟨3, 42, [.o (.own 768), .o (.own 769)], false⟩], [], []⟩
def laws_FnColoured.l23.u (n : Nat) (v : laws_FnColoured.l23.s.V) (K : X -> St -> Prop) : Prop := laws_FnColoured.l23 n v.1.2.1 v.1.2.2.1 v.2.1.2.1 v.2.1.2.2.1 v.1.2.2.2.1 v.1.2.2.2.2.2.1 v.2.1.1 (fun y0 y1 y2 y3 y4 => K (.exit 4) ⟨[(3, .c (.pbox 3 0)), (11, .c (.int .i64 y0)), (13, .c (.int .i64 y1)), (15, .c (.own 480))], [(480, ⟨58, .prod (.int .i64) (.sl 155 (.int .u64)), y2, 99, none⟩), (768, ⟨2, .int .i64, y3, 99, none⟩), (769, ⟨123, .prod (.int .i64) Y18, y4, 99, none⟩)], [(3, ⟨42, [.own 768, .own 769], false⟩)], [], []⟩)
abbrev laws_FnColoured.l18.s : ST := ⟨[(3, .c (.o (.pbox 3 0))), (11, .c (.o (.int .i64))), (13, .c (.o (.int .i64)))], [⟨768, 2, .int .i64, 99⟩, ⟨769, 123, .prod (.int .i64) Y18, 99⟩], [⟨3, 42, [.o (.own 768), .o (.own 769)], false⟩], [], []⟩
def laws_FnColoured.l18.u (n : Nat) (v : laws_FnColoured.l18.s.V) (K : X -> St -> Prop) : Prop := laws_FnColoured.l18 n v.1.2.1 v.1.2.2.1 v.2.1.1 v.2.1.2.1 (K (.exit 2) ⟨[], [], [], [], []⟩) (fun y0 => K .ret ⟨[(2, .c (.bool y0))], [], [], [], []⟩)
theorem laws_FnColoured.l14_ok : ∀ n v K, laws_FnColoured.l14.u n v K -> loopM C X0 n 5 14 (laws_FnColoured.l14.s.fill v) K :=
 loop_tell hX (fn := Try.f5) (c := bodyOf Try.f5) (a := loopOf Try.f5 14) (li := liOf (C.fi 5).loops 14) (by kernel_rfl) (by kernel_rfl) (of_decide_eq_true rfl) (by kernel_rfl) (by kernel_rfl) (T := laws_FnColoured.l14.s) (u := laws_FnColoured.l14.u) (fun _ _ h => h) (call := D67) (lp := fun n => noL) (D67_ok hX) (fun n => noL_ok) (fun n v K => by kernel_rfl)
theorem laws_FnColoured.l23_ok : ∀ n v K, laws_FnColoured.l23.u n v K -> loopM C X0 n 5 23 (laws_FnColoured.l23.s.fill v) K :=
 loop_tell hX (fn := Try.f5) (c := bodyOf Try.f5) (a := loopOf Try.f5 23) (li := liOf (C.fi 5).loops 23) (by kernel_rfl) (by kernel_rfl) (of_decide_eq_true rfl) (by kernel_rfl) (by kernel_rfl) (T := laws_FnColoured.l23.s) (u := laws_FnColoured.l23.u) (fun _ _ h => h) (call := D67) (lp := fun n => noL) (D67_ok hX) (fun n => noL_ok) (fun n v K => by kernel_rfl)
theorem laws_FnColoured.l18_ok : ∀ n v K, laws_FnColoured.l18.u n v K -> loopM C X0 n 5 18 (laws_FnColoured.l18.s.fill v) K :=
 loop_tell hX (fn := Try.f5) (c := bodyOf Try.f5) (a := loopOf Try.f5 18) (li := liOf (C.fi 5).loops 18) (by kernel_rfl) (by kernel_rfl) (of_decide_eq_true rfl) (by kernel_rfl) (by kernel_rfl) (T := laws_FnColoured.l18.s) (u := laws_FnColoured.l18.u) (fun _ _ h => h) (call := D67) (lp := fun n => orL 23 laws_FnColoured.l23.s (laws_FnColoured.l23.u n) noL) (D67_ok hX) (fun n => (orL_ok (laws_FnColoured.l23_ok hX n) noL_ok)) (fun n v K => by kernel_rfl)
theorem laws_FnColoured_ok : ∀ n v K, laws_FnColoured.u n v K -> callM C X0 n 5 (fillA laws_FnColoured.a v) K :=
 call_tell hX (fn := Try.f5) (c := bodyOf Try.f5) (by kernel_rfl) (by kernel_rfl) (A := laws_FnColoured.a) (u := laws_FnColoured.u) (fun _ _ h => h) (call := D67) (lp := fun n => orL 14 laws_FnColoured.l14.s (laws_FnColoured.l14.u n) (orL 18 laws_FnColoured.l18.s (laws_FnColoured.l18.u n) noL)) (D67_ok hX) (fun n => (orL_ok (laws_FnColoured.l14_ok hX n) (orL_ok (laws_FnColoured.l18_ok hX n) noL_ok))) (fun n v K => by kernel_rfl)
def D68 (n : Nat) : CallF := orC 5 laws_FnColoured.a (laws_FnColoured.u n) (D67 n)
theorem D68_ok : ∀ n g a K, D68 n g a K -> callM C X0 n g a K := fun n => orC_ok (laws_FnColoured_ok hX n) (D67_ok hX n)
end
end Go.Vsi
end
