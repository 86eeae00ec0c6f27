/- Each told function is what the machine comes to. No statement is proved here. -/
import Derived.Test.YtppcdaliielpgaaM3
import Derived.Test.YtppcdaliielpgaaA1
import Derived.Test.YtppcdaliielpgaaProg
import Derived.KernelRfl

section
set_option linter.unusedVariables false
namespace Go.Vsi
abbrev Y21 : Ty := .prod .str (.int .i64)
abbrev Y20 : Ty := .prod (.int .i64) (.int .i64)
abbrev Y19 : Ty := .prod (.int .i64) (.sl 155 (.int .u64))
abbrev Y18 : Ty := .prod (.int .i64) (.prod (.int .i64) (.prod .bool (.int .u8)))
abbrev Y17 : Ty := .prod (.sl 2 (.int .i64)) (.sl 58 Y19)
abbrev Y16 : Ty := .prod (.int .i64) (.prod (.int .i64) Y19)
abbrev Y15 : Ty := .prod (.int .i64) Y16
abbrev Y14 : Ty := .prod (.sl 2 (.int .i64)) (.sl 123 Y16)
abbrev Y13 : Ty := .prod (.sl 2 (.int .i64)) (.sl 201 Y16)
abbrev Y12 : Ty := .prod (.int .i64) (.prod (.int .i64) (.prod (.int .i64) (.prod (.int .i64) (.prod (.sl 155 (.int .u64)) (.sl 2 (.int .i64))))))
abbrev Y11 : Ty := .prod (.int .i64) (.prod (.int .i64) (.sl 123 Y16))
abbrev Y10 : Ty := .prod (.int .i64) (.prod (.int .i64) (.sl 201 Y16))
abbrev Y9 : Ty := .prod (.int .i64) Y12
abbrev Y8 : Ty := .prod (.sl 2 (.int .i64)) (.prod (.sl 123 Y16) (.prod (.sl 58 Y19) (.prod (.sl 2 (.int .i64)) (.prod (.int .i64) (.prod (.int .i64) .bool)))))
abbrev Y7 : Ty := .prod (.sl 2 (.int .i64)) (.prod (.sl 123 Y16) (.prod (.sl 157 Y17) (.prod (.sl 2 (.int .i64)) (.prod (.sl 58 Y19) Y20))))
abbrev Y6 : Ty := .prod (.int .i64) (.prod .bool (.prod (.sl 174 Y9) (.sl 174 Y9)))
abbrev Y5 : Ty := .prod (.int .i64) (.prod .bool (.prod (.sl 226 Y9) (.sl 226 Y9)))
abbrev Y4 : Ty := .prod (.int .i64) (.sl 179 Y6)
abbrev Y3 : Ty := .prod (.int .i64) (.sl 177 Y5)
abbrev Y2 : Ty := .prod (.sl 167 Y21) (.prod (.sl 194 Y4) (.int .i64))
abbrev Y1 : Ty := .prod (.sl 164 Y21) (.prod (.sl 245 Y3) (.int .i64))
open Go.Proofs
def tis : List (Nat × TI) := [
(1, ⟨false, 1, 8, [.undef], none, none, []⟩),
(2, ⟨false, 1, 8, [.int .i64 0], some (.int .i64), none, []⟩),
(3, ⟨false, 1, 8, [.int .i64 0], some (.int .i64), none, []⟩),
(4, ⟨false, 1, 1, [.bool false], some (.bool), none, []⟩),
(5, ⟨false, 1, 1, [.int .u8 0], some (.int .u8), none, []⟩),
(6, ⟨false, 1, 1, [.int .u8 0], some (.int .u8), none, []⟩),
(7, ⟨true, 4, 24, [.int .i64 0, .int .i64 0, .bool false, .int .u8 0], some Y18, none, [(0, 2), (1, 3), (2, 4), (3, 6)]⟩),
(8, ⟨true, 4, 24, [.int .i64 0, .int .i64 0, .bool false, .int .u8 0], some Y18, none, [(0, 2), (1, 3), (2, 4), (3, 6)]⟩),
(9, ⟨false, 1, 16, [.str []], some (.str), none, []⟩),
(10, ⟨false, 1, 16, [.str []], some (.str), none, []⟩),
(11, ⟨false, 1, 16, [.str []], some (.str), none, []⟩),
(12, ⟨false, 1, 8, [.int .u64 0], some (.int .u64), none, []⟩),
(13, ⟨true, 2, 24, [.str [], .int .u64 0], some (.prod .str (.int .u64)), none, [(0, 9), (1, 12)]⟩),
(14, ⟨true, 2, 24, [.str [], .int .u64 0], some (.prod .str (.int .u64)), none, [(0, 9), (1, 12)]⟩),
(15, ⟨false, 1, 8, [.undef], none, none, []⟩),
(16, ⟨false, 1, 8, [.undef], none, none, []⟩),
(17, ⟨false, 1, 8, [.undef], none, none, []⟩),
(18, ⟨true, 1, 8, [.undef], none, none, [(0, 17)]⟩),
(19, ⟨true, 1, 8, [.undef], none, none, [(0, 17)]⟩),
(20, ⟨false, 1, 16, [.undef], none, none, []⟩),
(21, ⟨false, 1, 4, [.int .i32 0], some (.int .i32), none, []⟩),
(22, ⟨false, 1, 24, [.emp 118 Y10], some (.sl 118 Y10), some 118, []⟩),
(23, ⟨false, 1, 8, [.undef], none, none, []⟩),
(24, ⟨false, 1, 24, [.emp 123 Y16], some (.sl 123 Y16), some 123, []⟩),
(25, ⟨false, 1, 8, [.undef], none, none, []⟩),
(26, ⟨false, 1, 24, [.emp 120 Y11], some (.sl 120 Y11), some 120, []⟩),
(27, ⟨false, 1, 8, [.undef], none, none, []⟩),
(28, ⟨false, 1, 8, [.undef], none, none, []⟩),
(29, ⟨false, 1, 8, [.undef], none, none, []⟩),
(30, ⟨false, 1, 8, [.undef], none, none, []⟩),
(31, ⟨false, 1, 8, [.undef], none, none, []⟩),
(32, ⟨false, 1, 8, [.undef], none, none, []⟩),
(33, ⟨false, 1, 24, [.emp 2 (.int .i64)], some (.sl 2 (.int .i64)), some 2, []⟩),
(34, ⟨false, 1, 24, [.emp 201 Y16], some (.sl 201 Y16), some 201, []⟩),
(35, ⟨true, 2, 48, [.emp 2 (.int .i64), .emp 201 Y16], some Y13, none, [(0, 33), (1, 34)]⟩),
(36, ⟨true, 2, 48, [.emp 2 (.int .i64), .emp 201 Y16], some Y13, none, [(0, 33), (1, 34)]⟩),
(37, ⟨false, 1, 24, [.emp 131 Y19], some (.sl 131 Y19), some 131, []⟩),
(38, ⟨false, 1, 8, [.undef], none, none, []⟩),
(39, ⟨false, 1, 8, [.undef], none, none, []⟩),
(40, ⟨false, 1, 8, [.undef], none, none, []⟩),
(41, ⟨true, 2, 48, [.emp 2 (.int .i64), .emp 123 Y16], some Y14, none, [(0, 33), (1, 24)]⟩),
(42, ⟨true, 2, 48, [.emp 2 (.int .i64), .emp 123 Y16], some Y14, none, [(0, 33), (1, 24)]⟩),
(43, ⟨false, 1, 8, [.undef], none, none, []⟩),
(44, ⟨false, 1, 24, [.emp 58 Y19], some (.sl 58 Y19), some 58, []⟩),
(45, ⟨false, 1, 8, [.undef], none, none, []⟩),
(46, ⟨false, 1, 8, [.undef], none, none, []⟩),
(47, ⟨false, 1, 8, [.undef], none, none, []⟩),
(48, ⟨false, 1, 8, [.undef], none, none, []⟩),
(49, ⟨false, 1, 24, [.emp 5 (.int .u8)], some (.sl 5 (.int .u8)), some 5, []⟩),
(50, ⟨false, 1, 8, [.undef], none, none, []⟩),
(52, ⟨false, 1, 8, [.undef], none, none, []⟩),
(54, ⟨false, 1, 8, [.undef], none, none, []⟩),
(55, ⟨false, 1, 8, [.int .u64 0], some (.int .u64), none, []⟩),
(56, ⟨false, 1, 24, [.emp 155 (.int .u64)], some (.sl 155 (.int .u64)), some 155, []⟩),
(57, ⟨true, 2, 32, [.int .i64 0, .emp 155 (.int .u64)], some Y19, none, [(0, 2), (1, 56)]⟩),
(58, ⟨true, 2, 32, [.int .i64 0, .emp 155 (.int .u64)], some Y19, none, [(0, 2), (1, 56)]⟩),
(60, ⟨false, 1, 8, [.undef], none, none, []⟩),
(61, ⟨false, 1, 24, [.emp 167 Y21], some (.sl 167 Y21), some 167, []⟩),
(63, ⟨false, 1, 8, [.undef], none, none, []⟩),
(65, ⟨false, 1, 8, [.undef], none, none, []⟩),
(66, ⟨false, 1, 8, [.undef], none, none, []⟩),
(67, ⟨false, 1, 8, [.undef], none, none, []⟩),
(68, ⟨false, 1, 8, [.undef], none, none, []⟩),
(69, ⟨false, 1, 8, [.undef], none, none, []⟩),
(70, ⟨false, 1, 8, [.undef], none, none, []⟩),
(71, ⟨false, 1, 8, [.undef], none, none, []⟩),
(72, ⟨false, 1, 24, [.emp 164 Y21], some (.sl 164 Y21), some 164, []⟩),
(73, ⟨false, 1, 24, [.emp 226 Y9], some (.sl 226 Y9), some 226, []⟩),
(74, ⟨true, 1, 24, [.emp 226 Y9], some (.sl 226 Y9), none, [(0, 73)]⟩),
(75, ⟨true, 1, 24, [.emp 226 Y9], some (.sl 226 Y9), none, [(0, 73)]⟩),
(76, ⟨false, 1, 8, [.undef], none, none, []⟩),
(77, ⟨false, 1, 8, [.undef], none, none, []⟩),
(78, ⟨false, 1, 8, [.undef], none, none, []⟩),
(79, ⟨false, 1, 8, [.undef], none, none, []⟩),
(80, ⟨false, 1, 24, [.emp 174 Y9], some (.sl 174 Y9), some 174, []⟩),
(81, ⟨true, 1, 24, [.emp 174 Y9], some (.sl 174 Y9), none, [(0, 80)]⟩),
(82, ⟨true, 1, 24, [.emp 174 Y9], some (.sl 174 Y9), none, [(0, 80)]⟩),
(83, ⟨false, 1, 8, [.undef], none, none, []⟩),
(84, ⟨false, 1, 8, [.undef], none, none, []⟩),
(85, ⟨false, 1, 8, [.undef], none, none, []⟩),
(86, ⟨false, 1, 8, [.undef], none, none, []⟩),
(87, ⟨false, 1, 24, [.emp 177 Y5], some (.sl 177 Y5), some 177, []⟩),
(88, ⟨false, 1, 8, [.undef], none, none, []⟩),
(89, ⟨false, 1, 8, [.undef], none, none, []⟩),
(90, ⟨false, 1, 24, [.emp 179 Y6], some (.sl 179 Y6), some 179, []⟩),
(91, ⟨false, 1, 8, [.undef], none, none, []⟩),
(92, ⟨false, 1, 8, [.undef], none, none, []⟩),
(93, ⟨false, 1, 8, [.undef], none, none, []⟩),
(94, ⟨false, 1, 8, [.undef], none, none, []⟩),
(95, ⟨false, 1, 8, [.undef], none, none, []⟩),
(96, ⟨false, 1, 24, [.emp 102 Y15], some (.sl 102 Y15), some 102, []⟩),
(98, ⟨false, 1, 8, [.undef], none, none, []⟩),
(100, ⟨false, 1, 8, [.undef], none, none, []⟩),
(101, ⟨true, 5, 56, [.int .i64 0, .int .i64 0, .int .i64 0, .int .i64 0, .emp 155 (.int .u64)], some Y15, none, [(0, 2), (1, 2), (2, 2), (3, 58)]⟩),
(102, ⟨true, 5, 56, [.int .i64 0, .int .i64 0, .int .i64 0, .int .i64 0, .emp 155 (.int .u64)], some Y15, none, [(0, 2), (1, 2), (2, 2), (3, 58)]⟩),
(103, ⟨false, 1, 8, [.undef], none, none, []⟩),
(104, ⟨false, 1, 8, [.undef], none, none, []⟩),
(105, ⟨false, 1, 24, [.emp 245 Y3], some (.sl 245 Y3), some 245, []⟩),
(106, ⟨true, 3, 56, [.emp 164 Y21, .emp 245 Y3, .int .i64 0], some Y1, none, [(0, 72), (1, 105), (2, 2)]⟩),
(107, ⟨true, 3, 56, [.emp 164 Y21, .emp 245 Y3, .int .i64 0], some Y1, none, [(0, 72), (1, 105), (2, 2)]⟩),
(108, ⟨false, 1, 8, [.undef], none, none, []⟩),
(109, ⟨false, 1, 8, [.undef], none, none, []⟩),
(110, ⟨false, 1, 24, [.emp 194 Y4], some (.sl 194 Y4), some 194, []⟩),
(111, ⟨true, 3, 56, [.emp 167 Y21, .emp 194 Y4, .int .i64 0], some Y2, none, [(0, 61), (1, 110), (2, 2)]⟩),
(112, ⟨true, 3, 56, [.emp 167 Y21, .emp 194 Y4, .int .i64 0], some Y2, none, [(0, 61), (1, 110), (2, 2)]⟩),
(113, ⟨false, 1, 8, [.undef], none, none, []⟩),
(114, ⟨false, 1, 8, [.undef], none, none, []⟩),
(115, ⟨false, 1, 8, [.undef], none, none, []⟩),
(116, ⟨false, 1, 8, [.undef], none, none, []⟩),
(117, ⟨true, 3, 40, [.int .i64 0, .int .i64 0, .emp 201 Y16], some Y10, none, [(0, 2), (1, 2), (2, 34)]⟩),
(118, ⟨true, 3, 40, [.int .i64 0, .int .i64 0, .emp 201 Y16], some Y10, none, [(0, 2), (1, 2), (2, 34)]⟩),
(119, ⟨true, 3, 40, [.int .i64 0, .int .i64 0, .emp 123 Y16], some Y11, none, [(0, 2), (1, 2), (2, 24)]⟩),
(120, ⟨true, 3, 40, [.int .i64 0, .int .i64 0, .emp 123 Y16], some Y11, none, [(0, 2), (1, 2), (2, 24)]⟩),
(121, ⟨false, 1, 8, [.undef], none, none, []⟩),
(122, ⟨true, 4, 48, [.int .i64 0, .int .i64 0, .int .i64 0, .emp 155 (.int .u64)], some Y16, none, [(0, 2), (1, 2), (2, 58)]⟩),
(123, ⟨true, 4, 48, [.int .i64 0, .int .i64 0, .int .i64 0, .emp 155 (.int .u64)], some Y16, none, [(0, 2), (1, 2), (2, 58)]⟩),
(124, ⟨false, 1, 8, [.undef], none, none, []⟩),
(125, ⟨false, 1, 8, [.undef], none, none, []⟩),
(126, ⟨false, 1, 8, [.undef], none, none, []⟩),
(127, ⟨false, 1, 8, [.undef], none, none, []⟩),
(128, ⟨false, 1, 8, [.undef], none, none, []⟩),
(129, ⟨false, 1, 8, [.undef], none, none, []⟩),
(130, ⟨false, 1, 8, [.undef], none, none, []⟩),
(131, ⟨true, 2, 32, [.int .i64 0, .emp 155 (.int .u64)], some Y19, none, [(0, 2), (1, 56)]⟩),
(132, ⟨false, 1, 8, [.undef], none, none, []⟩),
(133, ⟨false, 1, 8, [.undef], none, none, []⟩),
(134, ⟨false, 1, 8, [.undef], none, none, []⟩),
(135, ⟨false, 1, 8, [.undef], none, none, []⟩),
(136, ⟨false, 1, 8, [.undef], none, none, []⟩),
(137, ⟨false, 1, 8, [.undef], none, none, []⟩),
(138, ⟨false, 1, 8, [.undef], none, none, []⟩),
(139, ⟨false, 1, 8, [.undef], none, none, []⟩),
(140, ⟨false, 1, 8, [.undef], none, none, []⟩),
(141, ⟨false, 1, 8, [.undef], none, none, []⟩),
(142, ⟨false, 1, 8, [.undef], none, none, []⟩),
(143, ⟨false, 1, 8, [.undef], none, none, []⟩),
(144, ⟨false, 1, 8, [.undef], none, none, []⟩),
(145, ⟨false, 1, 8, [.undef], none, none, []⟩),
(146, ⟨true, 7, 120, [.emp 2 (.int .i64), .emp 123 Y16, .emp 58 Y19, .emp 2 (.int .i64), .int .i64 0, .int .i64 0, .bool false], some Y8, none, [(0, 42), (2, 44), (3, 33), (4, 2), (5, 2), (6, 4)]⟩),
(147, ⟨true, 7, 120, [.emp 2 (.int .i64), .emp 123 Y16, .emp 58 Y19, .emp 2 (.int .i64), .int .i64 0, .int .i64 0, .bool false], some Y8, none, [(0, 42), (2, 44), (3, 33), (4, 2), (5, 2), (6, 4)]⟩),
(148, ⟨false, 1, 8, [.undef], none, none, []⟩),
(149, ⟨false, 1, 8, [.undef], none, none, []⟩),
(150, ⟨false, 1, 8, [.undef], none, none, []⟩),
(151, ⟨false, 1, 8, [.undef], none, none, []⟩),
(152, ⟨false, 1, 8, [.undef], none, none, []⟩),
(153, ⟨false, 1, 8, [.undef], none, none, []⟩),
(154, ⟨false, 1, 8, [.undef], none, none, []⟩),
(155, ⟨false, 1, 8, [.int .u64 0], some (.int .u64), none, []⟩),
(156, ⟨true, 2, 48, [.emp 2 (.int .i64), .emp 58 Y19], some Y17, none, [(0, 33), (1, 44)]⟩),
(157, ⟨true, 2, 48, [.emp 2 (.int .i64), .emp 58 Y19], some Y17, none, [(0, 33), (1, 44)]⟩),
(158, ⟨false, 1, 24, [.emp 157 Y17], some (.sl 157 Y17), some 157, []⟩),
(159, ⟨false, 1, 8, [.undef], none, none, []⟩),
(160, ⟨false, 1, 8, [.undef], none, none, []⟩),
(161, ⟨false, 1, 8, [.undef], none, none, []⟩),
(162, ⟨false, 1, 8, [.undef], none, none, []⟩),
(163, ⟨true, 2, 24, [.str [], .int .i64 0], some Y21, none, [(0, 9), (1, 2)]⟩),
(164, ⟨true, 2, 24, [.str [], .int .i64 0], some Y21, none, [(0, 9), (1, 2)]⟩),
(165, ⟨false, 1, 8, [.undef], none, none, []⟩),
(166, ⟨false, 1, 8, [.undef], none, none, []⟩),
(167, ⟨true, 2, 24, [.str [], .int .i64 0], some Y21, none, [(0, 9), (1, 2)]⟩),
(168, ⟨false, 1, 8, [.undef], none, none, []⟩),
(169, ⟨false, 1, 8, [.undef], none, none, []⟩),
(170, ⟨false, 1, 8, [.undef], none, none, []⟩),
(171, ⟨false, 1, 8, [.undef], none, none, []⟩),
(174, ⟨true, 7, 88, [.int .i64 0, .int .i64 0, .int .i64 0, .int .i64 0, .int .i64 0, .emp 155 (.int .u64), .emp 2 (.int .i64)], some Y9, none, [(0, 2), (1, 2), (2, 2), (3, 2), (4, 58), (6, 33)]⟩),
(176, ⟨true, 4, 64, [.int .i64 0, .bool false, .emp 226 Y9, .emp 226 Y9], some Y5, none, [(0, 2), (1, 4), (2, 75), (3, 75)]⟩),
(177, ⟨true, 4, 64, [.int .i64 0, .bool false, .emp 226 Y9, .emp 226 Y9], some Y5, none, [(0, 2), (1, 4), (2, 75), (3, 75)]⟩),
(179, ⟨true, 4, 64, [.int .i64 0, .bool false, .emp 174 Y9, .emp 174 Y9], some Y6, none, [(0, 2), (1, 4), (2, 82), (3, 82)]⟩),
(181, ⟨false, 1, 8, [.undef], none, none, []⟩),
(185, ⟨false, 1, 24, [.emp 240 Y20], some (.sl 240 Y20), some 240, []⟩),
(186, ⟨false, 1, 8, [.undef], none, none, []⟩),
(187, ⟨false, 1, 8, [.undef], none, none, []⟩),
(189, ⟨false, 1, 8, [.undef], none, none, []⟩),
(190, ⟨false, 1, 8, [.undef], none, none, []⟩),
(193, ⟨true, 2, 32, [.int .i64 0, .emp 179 Y6], some Y4, none, [(0, 2), (1, 90)]⟩),
(194, ⟨true, 2, 32, [.int .i64 0, .emp 179 Y6], some Y4, none, [(0, 2), (1, 90)]⟩),
(195, ⟨false, 1, 8, [.undef], none, none, []⟩),
(196, ⟨false, 1, 8, [.undef], none, none, []⟩),
(197, ⟨false, 1, 8, [.undef], none, none, []⟩),
(198, ⟨false, 1, 8, [.undef], none, none, []⟩),
(199, ⟨false, 1, 8, [.undef], none, none, []⟩),
(200, ⟨true, 4, 48, [.int .i64 0, .int .i64 0, .int .i64 0, .emp 155 (.int .u64)], some Y16, none, [(0, 2), (1, 2), (2, 131)]⟩),
(201, ⟨true, 4, 48, [.int .i64 0, .int .i64 0, .int .i64 0, .emp 155 (.int .u64)], some Y16, none, [(0, 2), (1, 2), (2, 131)]⟩),
(204, ⟨false, 1, 8, [.undef], none, none, []⟩),
(210, ⟨true, 2, 32, [.emp 5 (.int .u8), .int .i64 0], some (.prod (.sl 5 (.int .u8)) (.int .i64)), none, [(0, 49), (1, 3)]⟩),
(211, ⟨false, 1, 8, [.undef], none, none, []⟩),
(212, ⟨false, 1, 8, [.undef], none, none, []⟩),
(216, ⟨true, 7, 136, [.emp 2 (.int .i64), .emp 123 Y16, .emp 157 Y17, .emp 2 (.int .i64), .emp 58 Y19, .int .i64 0, .int .i64 0], some Y7, none, [(0, 42), (2, 158), (3, 33), (4, 44), (5, 2), (6, 2)]⟩),
(217, ⟨true, 7, 136, [.emp 2 (.int .i64), .emp 123 Y16, .emp 157 Y17, .emp 2 (.int .i64), .emp 58 Y19, .int .i64 0, .int .i64 0], some Y7, none, [(0, 42), (2, 158), (3, 33), (4, 44), (5, 2), (6, 2)]⟩),
(218, ⟨false, 1, 8, [.undef], none, none, []⟩),
(219, ⟨false, 1, 8, [.undef], none, none, []⟩),
(220, ⟨false, 1, 8, [.undef], none, none, []⟩),
(221, ⟨false, 1, 8, [.undef], none, none, []⟩),
(222, ⟨false, 1, 8, [.undef], none, none, []⟩),
(225, ⟨true, 7, 88, [.int .i64 0, .int .i64 0, .int .i64 0, .int .i64 0, .int .i64 0, .emp 155 (.int .u64), .emp 2 (.int .i64)], some Y9, none, [(0, 2), (1, 2), (2, 2), (3, 2), (4, 131), (6, 33)]⟩),
(226, ⟨true, 7, 88, [.int .i64 0, .int .i64 0, .int .i64 0, .int .i64 0, .int .i64 0, .emp 155 (.int .u64), .emp 2 (.int .i64)], some Y9, none, [(0, 2), (1, 2), (2, 2), (3, 2), (4, 131), (6, 33)]⟩),
(227, ⟨false, 1, 24, [.emp 4 .bool], some (.sl 4 .bool), some 4, []⟩),
(240, ⟨true, 2, 16, [.int .i64 0, .int .i64 0], some Y20, none, [(0, 2), (1, 2)]⟩),
(245, ⟨true, 2, 32, [.int .i64 0, .emp 177 Y5], some Y3, none, [(0, 2), (1, 87)]⟩),
(255, ⟨false, 1, 8, [.undef], none, none, []⟩),
(256, ⟨false, 1, 8, [.undef], none, none, []⟩),
(261, ⟨false, 1, 24, [.emp 185 (.sl 240 Y20)], some (.sl 185 (.sl 240 Y20)), some 185, []⟩)]
noncomputable def fns : List (Nat × Func) := [(13, Try.f13), (32, Try.f32), (41, Try.f41), (50, Try.f50), (66, Try.f66), (67, Try.f67), (68, Try.f68), (69, Try.f69), (70, Try.f70), (87, Try.f87), (93, Try.f93), (99, Try.f99), (101, Try.f101), (102, Try.f102), (103, Try.f103), (108, Try.f108), (110, Try.f110), (111, Try.f111), (118, Try.f118), (121, Try.f121), (125, Try.f125), (128, Try.f128), (133, Try.f133), (138, Try.f138), (139, Try.f139), (140, Try.f140), (141, Try.f141), (142, Try.f142), (143, Try.f143), (144, Try.f144), (145, Try.f145), (146, Try.f146), (147, Try.f147), (148, Try.f148), (159, Try.f159), (164, Try.f164), (168, Try.f168), (169, Try.f169), (170, Try.f170), (171, Try.f171), (176, Try.f176), (179, Try.f179), (181, Try.f181), (186, Try.f186), (187, Try.f187), (189, Try.f189), (190, Try.f190), (193, Try.f193), (194, Try.f194), (195, Try.f195), (196, Try.f196), (197, Try.f197), (198, Try.f198), (199, Try.f199), (200, Try.f200), (204, Try.f204), (210, Try.f210), (211, Try.f211), (212, Try.f212), (216, Try.f216), (217, Try.f217), (218, Try.f218), (219, Try.f219), (220, Try.f220), (221, Try.f221), (222, Try.f222), (225, Try.f225)]
def fis : List (Nat × Fi) := [
(13, ⟨[], [], [(12, ⟨⟨[3, 4, 5, 9, 11, 12], []⟩, [(0, ⟨[3, 4, 5, 9, 11], []⟩)], ⟨[2], []⟩⟩)]⟩),
(32, ⟨[], [], []⟩),
(41, ⟨[], [], [(4, ⟨⟨[2, 3, 5], []⟩, [(0, ⟨[], []⟩)], ⟨[4], []⟩⟩)]⟩),
(50, ⟨[], [], []⟩),
(66, ⟨[], [some 0, some 1], []⟩),
(67, ⟨[], [], []⟩),
(68, ⟨[], [], []⟩),
(69, ⟨[], [], [(4, ⟨⟨[0, 1, 5], []⟩, [(0, ⟨[], []⟩)], ⟨[4], []⟩⟩)]⟩),
(70, ⟨[], [some 1], []⟩),
(87, ⟨[], [], [(4, ⟨⟨[1, 3], []⟩, [(0, ⟨[], []⟩)], ⟨[2], []⟩⟩)]⟩),
(93, ⟨[], [], []⟩),
(99, ⟨[], [], []⟩),
(101, ⟨[1], [], []⟩),
(102, ⟨[1], [], []⟩),
(103, ⟨[], [], []⟩),
(108, ⟨[], [], []⟩),
(110, ⟨[], [], [(5, ⟨⟨[0, 2, 4, 5], []⟩, [(0, ⟨[2, 4], []⟩)], ⟨[2, 3], []⟩⟩)]⟩),
(111, ⟨[1], [], [(3, ⟨⟨[0, 3, 4], [(3, 0, .own 99)]⟩, [(0, ⟨[3], []⟩)], ⟨[2], []⟩⟩)]⟩),
(118, ⟨[], [], []⟩),
(121, ⟨[], [], []⟩),
(125, ⟨[], [], [(7, ⟨⟨[0, 3, 5, 6, 7, 8], [(6, 0, .own 99)]⟩, [(0, ⟨[5, 6, 7], []⟩)], ⟨[4], []⟩⟩), (16, ⟨⟨[0, 3, 5, 6, 7, 8, 10], []⟩, [(2, ⟨[0, 3, 5, 6, 7, 8], []⟩)], ⟨[4], []⟩⟩), (20, ⟨⟨[5, 6, 7, 11], []⟩, [(4, ⟨[6], []⟩)], ⟨[4], []⟩⟩)]⟩),
(128, ⟨[], [], [(5, ⟨⟨[0, 3, 9, 10, 11], []⟩, [(0, ⟨[3], []⟩)], ⟨[2], []⟩⟩)]⟩),
(133, ⟨[], [], [(5, ⟨⟨[0, 3, 4], []⟩, [(0, ⟨[3], []⟩)], ⟨[2], []⟩⟩), (10, ⟨⟨[0, 3, 4, 5], []⟩, [(2, ⟨[0, 3, 4], []⟩)], ⟨[2], []⟩⟩)]⟩),
(138, ⟨[1], [some 1], []⟩),
(139, ⟨[], [], [(3, ⟨⟨[0, 3, 4], []⟩, [(0, ⟨[3], []⟩)], ⟨[2], []⟩⟩)]⟩),
(140, ⟨[], [], [(5, ⟨⟨[0, 1, 5, 6], []⟩, [(0, ⟨[5], []⟩)], ⟨[4], []⟩⟩)]⟩),
(141, ⟨[], [], [(3, ⟨⟨[0, 3, 4], [(3, 0, .own 99)]⟩, [(0, ⟨[3], []⟩)], ⟨[2], []⟩⟩), (6, ⟨⟨[0, 3, 4, 5], [(3, 0, .own 99)]⟩, [(2, ⟨[0, 3, 4], []⟩)], ⟨[2], []⟩⟩)]⟩),
(142, ⟨[], [], [(3, ⟨⟨[0, 4, 5], [(4, 0, .own 99)]⟩, [(0, ⟨[4], []⟩)], ⟨[2, 3], []⟩⟩), (7, ⟨⟨[0, 4, 6, 7], [(7, 0, .own 99)]⟩, [(2, ⟨[0, 4, 6, 7], []⟩)], ⟨[2, 3], []⟩⟩), (12, ⟨⟨[0, 4, 5, 6], []⟩, [(4, ⟨[0, 4, 5, 6], []⟩)], ⟨[2, 3], []⟩⟩)]⟩),
(143, ⟨[], [], []⟩),
(144, ⟨[], [], [(3, ⟨⟨[3, 6, 7, 8], []⟩, [(0, ⟨[3], []⟩)], ⟨[2], []⟩⟩)]⟩),
(145, ⟨[], [], [(3, ⟨⟨[3, 9, 10, 11], []⟩, [(0, ⟨[3], []⟩)], ⟨[2], []⟩⟩)]⟩),
(146, ⟨[], [some 1], [(4, ⟨⟨[1, 2, 7, 8, 14, 15, 16], [(7, 0, .own 1)]⟩, [(0, ⟨[7], []⟩)], ⟨[6], []⟩⟩)]⟩),
(147, ⟨[], [], [(5, ⟨⟨[0, 1, 5, 16, 17, 18], []⟩, [(0, ⟨[5], []⟩)], ⟨[4], []⟩⟩)]⟩),
(148, ⟨[2], [some 1], [(2, ⟨⟨[0, 8, 9, 10], [(0, 0, .own 1)]⟩, [(0, ⟨[0], []⟩)], ⟨[4], []⟩⟩)]⟩),
(159, ⟨[], [], []⟩),
(164, ⟨[], [], []⟩),
(168, ⟨[1], [], []⟩),
(169, ⟨[1], [], []⟩),
(170, ⟨[1], [], [(5, ⟨⟨[1, 4, 5, 6, 7, 8], [(5, 0, .own 99)]⟩, [(0, ⟨[4, 5], []⟩)], ⟨[4], []⟩⟩)]⟩),
(171, ⟨[1], [], []⟩),
(176, ⟨[], [], []⟩),
(179, ⟨[1], [], [(3, ⟨⟨[0, 3, 4], []⟩, [(0, ⟨[3], []⟩)], ⟨[2], []⟩⟩)]⟩),
(181, ⟨[], [], []⟩),
(186, ⟨[], [], [(2, ⟨⟨[0, 2, 4, 7], []⟩, [(0, ⟨[0, 4], []⟩)], ⟨[6], []⟩⟩), (1000007, ⟨⟨[0, 4, 63], []⟩, [(1000000, ⟨[0, 4], []⟩)], ⟨[6], []⟩⟩), (1000008, ⟨⟨[0, 4], []⟩, [(1000000, ⟨[6], []⟩)], ⟨[6], []⟩⟩)]⟩),
(187, ⟨[], [], [(3, ⟨⟨[0, 2, 4, 7, 8], []⟩, [(0, ⟨[0, 4, 7], []⟩)], ⟨[6], []⟩⟩)]⟩),
(189, ⟨[], [], [(4, ⟨⟨[0, 3], []⟩, [(0, ⟨[], []⟩)], ⟨[2], []⟩⟩)]⟩),
(190, ⟨[], [], []⟩),
(193, ⟨[], [], [(4, ⟨⟨[0, 3], []⟩, [(0, ⟨[], []⟩)], ⟨[2], []⟩⟩)]⟩),
(194, ⟨[], [], [(6, ⟨⟨[0, 3, 6, 7, 8], [(6, 0, .own 1), (7, 0, .own 99)]⟩, [(0, ⟨[7], []⟩)], ⟨[4, 5], []⟩⟩), (10, ⟨⟨[0, 3, 6, 8, 9, 10], [(6, 0, .own 1), (9, 0, .own 1)]⟩, [(2, ⟨[0, 3, 6, 8, 9], []⟩)], ⟨[4, 5], []⟩⟩)]⟩),
(195, ⟨[1], [], [(5, ⟨⟨[0, 1, 2, 6, 7, 8, 9, 10], [(7, 0, .own 99)]⟩, [(0, ⟨[1, 2, 6, 7, 8], [(7, 0, .own 99)]⟩)], ⟨[6], []⟩⟩), (1000034, ⟨⟨[0, 1, 2, 6, 7, 8, 9, 10, 13, 65, 117], []⟩, [(1000000, ⟨[0, 1, 2, 6, 7, 8, 9, 10, 13], []⟩)], ⟨[6], []⟩⟩)]⟩),
(196, ⟨[], [], []⟩),
(197, ⟨[], [none], []⟩),
(198, ⟨[], [], []⟩),
(199, ⟨[], [], []⟩),
(200, ⟨[], [], []⟩),
(204, ⟨[1], [], []⟩),
(210, ⟨[], [], []⟩),
(211, ⟨[], [], [(2, ⟨⟨[0, 1, 7, 8], []⟩, [(0, ⟨[], []⟩)], ⟨[4], []⟩⟩)]⟩),
(212, ⟨[], [], []⟩),
(216, ⟨[], [], []⟩),
(217, ⟨[], [], [(5, ⟨⟨[0, 4, 7, 8], [(7, 0, .own 99)]⟩, [(1, ⟨[7], []⟩)], ⟨[6], []⟩⟩), (10, ⟨⟨[4, 7, 9], [(7, 0, .own 99)]⟩, [(3, ⟨[7], []⟩)], ⟨[6], []⟩⟩), (15, ⟨⟨[2, 7, 10], [(7, 0, .own 99)]⟩, [(5, ⟨[7], []⟩)], ⟨[6], []⟩⟩), (27, ⟨⟨[4, 7, 11, 12], [(7, 0, .own 99)]⟩, [(7, ⟨[7], []⟩)], ⟨[6], []⟩⟩), (40, ⟨⟨[2, 4, 7, 15], [(7, 0, .own 99)]⟩, [(9, ⟨[7], []⟩)], ⟨[6], []⟩⟩)]⟩),
(218, ⟨[], [], [(5, ⟨⟨[0, 5, 6, 7], []⟩, [(0, ⟨[0, 5, 6], []⟩)], ⟨[4], []⟩⟩), (8, ⟨⟨[0, 5, 6, 7, 8], []⟩, [(2, ⟨[0, 5, 6, 7], []⟩)], ⟨[4], []⟩⟩), (13, ⟨⟨[0, 5, 6, 9, 10], [(9, 0, .own 99)]⟩, [(4, ⟨[9], []⟩)], ⟨[4], []⟩⟩), (18, ⟨⟨[0, 5, 6, 9, 10, 11, 12], []⟩, [(6, ⟨[0, 5, 6, 9, 10, 11], []⟩)], ⟨[4], []⟩⟩)]⟩),
(219, ⟨[2], [], []⟩),
(220, ⟨[], [none], []⟩),
(221, ⟨[], [], [(3, ⟨⟨[1, 2, 3, 6, 7, 15, 16], []⟩, [(0, ⟨[2, 6, 7], []⟩)], ⟨[6], []⟩⟩)]⟩),
(222, ⟨[1], [], [(2, ⟨⟨[1, 3, 10, 11, 12], []⟩, [(0, ⟨[], []⟩)], ⟨[], []⟩⟩)]⟩),
(225, ⟨[], [], []⟩)]
def fiF (f : Nat) : Fi := (look f fis).getD ⟨[], [], []⟩
noncomputable def C : Ctx := { ti := fun t => look t tis, fs := fun f => look f fns, fi := fiF }
def bodyOf (f : Func) : Code := f.body.getD .skip
def loopOf (f : Func) (k : Nat) : Code := (findLoop k (bodyOf f)).getD .skip
def cutOf (f : Func) (k : Nat) : Code := (findCut k (bodyOf f)).getD .skip
def liOf (l : List (Nat × Li)) (k : Nat) : Li := (look k l).getD ⟨⟨[], []⟩, [], ⟨[], []⟩⟩
theorem tis_ok : (tis.all fun x => tiB Try.prog x.1 x.2) = true := by kernel_rfl
theorem fns_all : (fns.all fun x => fnB (fiF x.1) x.2) = true := by kernel_rfl
theorem fnp (f : Nat) (x : Func) (r : List (Nat × Func)) (h : Try.prog.funcs[f]? = some x) (hr : ∀ y ∈ r, Try.prog.funcs[y.1]? = some y.2) : ∀ y ∈ (f, x) :: r, Try.prog.funcs[y.1]? = some y.2 := List.forall_mem_cons.2 ⟨h, hr⟩
set_option maxRecDepth 100000 in
theorem fns_prog : ∀ x ∈ fns, Try.prog.funcs[x.1]? = some x.2 := (fnp _ _ _ Try.func13
(fnp _ _ _ Try.func32
(fnp _ _ _ Try.func41
(fnp _ _ _ Try.func50
(fnp _ _ _ Try.func66
(fnp _ _ _ Try.func67
(fnp _ _ _ Try.func68
(fnp _ _ _ Try.func69
(fnp _ _ _ Try.func70
(fnp _ _ _ Try.func87
(fnp _ _ _ Try.func93
(fnp _ _ _ Try.func99
(fnp _ _ _ Try.func101
(fnp _ _ _ Try.func102
(fnp _ _ _ Try.func103
(fnp _ _ _ Try.func108
(fnp _ _ _ Try.func110
(fnp _ _ _ Try.func111
(fnp _ _ _ Try.func118
(fnp _ _ _ Try.func121
(fnp _ _ _ Try.func125
(fnp _ _ _ Try.func128
(fnp _ _ _ Try.func133
(fnp _ _ _ Try.func138
(fnp _ _ _ Try.func139
(fnp _ _ _ Try.func140
(fnp _ _ _ Try.func141
(fnp _ _ _ Try.func142
(fnp _ _ _ Try.func143
(fnp _ _ _ Try.func144
(fnp _ _ _ Try.func145
(fnp _ _ _ Try.func146
(fnp _ _ _ Try.func147
(fnp _ _ _ Try.func148
(fnp _ _ _ Try.func159
(fnp _ _ _ Try.func164
(fnp _ _ _ Try.func168
(fnp _ _ _ Try.func169
(fnp _ _ _ Try.func170
(fnp _ _ _ Try.func171
(fnp _ _ _ Try.func176
(fnp _ _ _ Try.func179
(fnp _ _ _ Try.func181
(fnp _ _ _ Try.func186
(fnp _ _ _ Try.func187
(fnp _ _ _ Try.func189
(fnp _ _ _ Try.func190
(fnp _ _ _ Try.func193
(fnp _ _ _ Try.func194
(fnp _ _ _ Try.func195
(fnp _ _ _ Try.func196
(fnp _ _ _ Try.func197
(fnp _ _ _ Try.func198
(fnp _ _ _ Try.func199
(fnp _ _ _ Try.func200
(fnp _ _ _ Try.func204
(fnp _ _ _ Try.func210
(fnp _ _ _ Try.func211
(fnp _ _ _ Try.func212
(fnp _ _ _ Try.func216
(fnp _ _ _ Try.func217
(fnp _ _ _ Try.func218
(fnp _ _ _ Try.func219
(fnp _ _ _ Try.func220
(fnp _ _ _ Try.func221
(fnp _ _ _ Try.func222
(fnp _ _ _ Try.func225
(fun _ h => by cases h))))))))))))))))))))))))))))))))))))))))))))))))))))))))))))))))))))
theorem C_ok : CtxOK Try.prog C := ctx_ok tis_ok fns_prog
theorem C_fns : FnsOK Try.prog C := Go.Vsi.fns_ok fns_all
theorem C_follows : Try.prog.follows .mixedOrders = true := by kernel_rfl
def D0 (n : Nat) : CallF := noC
theorem D0_ok {X0 : CallF} (hX : CallF.Mono X0) : ∀ n g a K, D0 n g a K -> callM C X0 n g a K := fun n => noC_ok
end Go.Vsi
end

section
set_option linter.unusedVariables false
namespace Go.Vsi
open Go.Proofs
section
variable {X0 : CallF} (hX : CallF.Mono X0)
include hX
abbrev Z28.a : List TS := [.c (.o (.dat 155 (.int .u64)))]
def Z28.u (n : Nat) (v : VA Z28.a) (K : RES -> Prop) : Prop := Z28.c n v.1 (fun r0 => K ⟨.c (.row ⟨155, .int .u64, r0, 99, none⟩), []⟩)
theorem Z28_ok : ∀ n v K, Z28.u n v K -> callM C X0 n 181 (fillA Z28.a v) K :=
 call_tell hX (fn := Try.f181) (c := bodyOf Try.f181) (by kernel_rfl) (by kernel_rfl) (A := Z28.a) (u := Z28.u) (fun _ _ h => h) (call := D0) (lp := fun n => noL) (D0_ok hX) (fun n => noL_ok) (fun n v K => by kernel_rfl)
def D1 (n : Nat) : CallF := orC 181 Z28.a (Z28.u n) (D0 n)
theorem D1_ok : ∀ n g a K, D1 n g a K -> callM C X0 n g a K := fun n => orC_ok (Z28_ok hX n) (D0_ok hX n)
abbrev Z10.a : List TS := [.a [.o (.int .i64), .o (.dat 155 (.int .u64))]]
def Z10.u (n : Nat) (v : VA Z10.a) (K : RES -> Prop) : Prop := Z10.c n v.1.1 v.1.2.1 (fun r0 r1 => K ⟨.agg [.int .i64 r0, .row ⟨155, .int .u64, r1, 99, none⟩], []⟩)
theorem Z10_ok : ∀ n v K, Z10.u n v K -> callM C X0 n 118 (fillA Z10.a v) K :=
 call_tell hX (fn := Try.f118) (c := bodyOf Try.f118) (by kernel_rfl) (by kernel_rfl) (A := Z10.a) (u := Z10.u) (fun _ _ h => h) (call := D1) (lp := fun n => noL) (D1_ok hX) (fun n => noL_ok) (fun n v K => by kernel_rfl)
def D2 (n : Nat) : CallF := orC 118 Z10.a (Z10.u n) (D1 n)
theorem D2_ok : ∀ n g a K, D2 n g a K -> callM C X0 n g a K := fun n => orC_ok (Z10_ok hX n) (D1_ok hX n)
abbrev Z40.a : List TS := [.c (.o (.int .i64)), .c (.o (.int .i64)), .c (.o (.int .i64))]
def Z40.u (n : Nat) (v : VA Z40.a) (K : RES -> Prop) : Prop := Z40.c n v.1 v.2.1 v.2.2.1 (fun r0 => K ⟨.c (.bool r0), []⟩)
theorem Z40_ok : ∀ n v K, Z40.u n v K -> callM C X0 n 103 (fillA Z40.a v) K :=
 call_tell hX (fn := Try.f103) (c := bodyOf Try.f103) (by kernel_rfl) (by kernel_rfl) (A := Z40.a) (u := Z40.u) (fun _ _ h => h) (call := D2) (lp := fun n => noL) (D2_ok hX) (fun n => noL_ok) (fun n v K => by kernel_rfl)
def D3 (n : Nat) : CallF := orC 103 Z40.a (Z40.u n) (D2 n)
theorem D3_ok : ∀ n g a K, D3 n g a K -> callM C X0 n g a K := fun n => orC_ok (Z40_ok hX n) (D2_ok hX n)
abbrev Z57.a : List TS := [.a [.o (.int .i64), .o (.dat 155 (.int .u64))]]
def Z57.u (n : Nat) (v : VA Z57.a) (K : RES -> Prop) : Prop := Z57.c n v.1.1 v.1.2.1 (fun r0 => K ⟨.c (.bool r0), []⟩)
theorem Z57_ok : ∀ n v K, Z57.u n v K -> callM C X0 n 121 (fillA Z57.a v) K :=
 call_tell hX (fn := Try.f121) (c := bodyOf Try.f121) (by kernel_rfl) (by kernel_rfl) (A := Z57.a) (u := Z57.u) (fun _ _ h => h) (call := D3) (lp := fun n => noL) (D3_ok hX) (fun n => noL_ok) (fun n v K => by kernel_rfl)
def D4 (n : Nat) : CallF := orC 121 Z57.a (Z57.u n) (D3 n)
theorem D4_ok : ∀ n g a K, D4 n g a K -> callM C X0 n g a K := fun n => orC_ok (Z57_ok hX n) (D3_ok hX n)
abbrev Z37.a : List TS := [.a [.o (.int .i64), .o (.dat 155 (.int .u64))], .c (.o (.int .i64))]
def Z37.u (n : Nat) (v : VA Z37.a) (K : RES -> Prop) : Prop := Z37.c n v.1.1 v.1.2.1 v.2.1 (fun r0 => K ⟨.c (.int .u8 r0), []⟩)
theorem Z37_ok : ∀ n v K, Z37.u n v K -> callM C X0 n 159 (fillA Z37.a v) K :=
 call_tell hX (fn := Try.f159) (c := bodyOf Try.f159) (by kernel_rfl) (by kernel_rfl) (A := Z37.a) (u := Z37.u) (fun _ _ h => h) (call := D4) (lp := fun n => noL) (D4_ok hX) (fun n => noL_ok) (fun n v K => by kernel_rfl)
def D5 (n : Nat) : CallF := orC 159 Z37.a (Z37.u n) (D4 n)
theorem D5_ok : ∀ n g a K, D5 n g a K -> callM C X0 n g a K := fun n => orC_ok (Z37_ok hX n) (D4_ok hX n)
abbrev Z30.a : List TS := [.a [.o (.int .i64), .o (.dat 155 (.int .u64))]]
def Z30.u (n : Nat) (v : VA Z30.a) (K : RES -> Prop) : Prop := Z30.c n v.1.1 v.1.2.1 (fun r0 => K ⟨.c (.bool r0), []⟩)
abbrev Z30.l4.s : ST := ⟨[(1, .c (.o (.pbox 1 0))), (3, .c (.o (.int .i64)))], [], [⟨1, 58, [.o (.int .i64), .o (.dat 155 (.int .u64))], false⟩], [], []⟩
def Z30.l4.u (n : Nat) (v : Z30.l4.s.V) (K : X -> St -> Prop) : Prop := Z30.l4 n v.2.2.1.1 v.2.2.1.2.1 v.1.2.1 (K (.exit 0) ⟨[], [], [], [], []⟩) (fun y0 => K .ret ⟨[(2, .c (.bool y0))], [], [], [], []⟩)
theorem Z30.l4_ok : ∀ n v K, Z30.l4.u n v K -> loopM C X0 n 87 4 (Z30.l4.s.fill v) K :=
 loop_tell hX (fn := Try.f87) (c := bodyOf Try.f87) (a := loopOf Try.f87 4) (li := liOf (C.fi 87).loops 4) (by kernel_rfl) (by kernel_rfl) (of_decide_eq_true rfl) (by kernel_rfl) (by kernel_rfl) (T := Z30.l4.s) (u := Z30.l4.u) (fun _ _ h => h) (call := D5) (lp := fun n => noL) (D5_ok hX) (fun n => noL_ok) (fun n v K => by kernel_rfl)
theorem Z30_ok : ∀ n v K, Z30.u n v K -> callM C X0 n 87 (fillA Z30.a v) K :=
 call_tell hX (fn := Try.f87) (c := bodyOf Try.f87) (by kernel_rfl) (by kernel_rfl) (A := Z30.a) (u := Z30.u) (fun _ _ h => h) (call := D5) (lp := fun n => orL 4 Z30.l4.s (Z30.l4.u n) noL) (D5_ok hX) (fun n => (orL_ok (Z30.l4_ok hX n) noL_ok)) (fun n v K => by kernel_rfl)
def D6 (n : Nat) : CallF := orC 87 Z30.a (Z30.u n) (D5 n)
theorem D6_ok : ∀ n g a K, D6 n g a K -> callM C X0 n g a K := fun n => orC_ok (Z30_ok hX n) (D5_ok hX n)
abbrev Z18.a : List TS := [.c (.o (.int .i64)), .c (.o (.int .i64)), .c (.o (.int .i64))]
def Z18.u (n : Nat) (v : VA Z18.a) (K : RES -> Prop) : Prop := Z18.c n v.1 v.2.1 v.2.2.1 (fun r0 => K ⟨.c (.bool r0), []⟩)
theorem Z18_ok : ∀ n v K, Z18.u n v K -> callM C X0 n 108 (fillA Z18.a v) K :=
 call_tell hX (fn := Try.f108) (c := bodyOf Try.f108) (by kernel_rfl) (by kernel_rfl) (A := Z18.a) (u := Z18.u) (fun _ _ h => h) (call := D6) (lp := fun n => noL) (D6_ok hX) (fun n => noL_ok) (fun n v K => by kernel_rfl)
def D7 (n : Nat) : CallF := orC 108 Z18.a (Z18.u n) (D6 n)
theorem D7_ok : ∀ n g a K, D7 n g a K -> callM C X0 n g a K := fun n => orC_ok (Z18_ok hX n) (D6_ok hX n)
abbrev Z23.a : List TS := [.c (.o (.int .i64))]
def Z23.u (n : Nat) (v : VA Z23.a) (K : RES -> Prop) : Prop := Z23.c n v.1 (fun r0 => K ⟨.c (.int .i64 r0), []⟩)
theorem Z23_ok : ∀ n v K, Z23.u n v K -> callM C X0 n 164 (fillA Z23.a v) K :=
 call_tell hX (fn := Try.f164) (c := bodyOf Try.f164) (by kernel_rfl) (by kernel_rfl) (A := Z23.a) (u := Z23.u) (fun _ _ h => h) (call := D7) (lp := fun n => noL) (D7_ok hX) (fun n => noL_ok) (fun n v K => by kernel_rfl)
def D8 (n : Nat) : CallF := orC 164 Z23.a (Z23.u n) (D7 n)
theorem D8_ok : ∀ n g a K, D8 n g a K -> callM C X0 n g a K := fun n => orC_ok (Z23_ok hX n) (D7_ok hX n)
abbrev Z0.a : List TS := [.a [.o (.int .i64), .o (.dat 155 (.int .u64))]]
def Z0.u (n : Nat) (v : VA Z0.a) (K : RES -> Prop) : Prop := Z0.c n v.1.1 v.1.2.1 (fun r0 => K ⟨.c (.bool r0), []⟩)
theorem Z0_ok : ∀ n v K, Z0.u n v K -> callM C X0 n 93 (fillA Z0.a v) K :=
 call_tell hX (fn := Try.f93) (c := bodyOf Try.f93) (by kernel_rfl) (by kernel_rfl) (A := Z0.a) (u := Z0.u) (fun _ _ h => h) (call := D8) (lp := fun n => noL) (D8_ok hX) (fun n => noL_ok) (fun n v K => by kernel_rfl)
def D9 (n : Nat) : CallF := orC 93 Z0.a (Z0.u n) (D8 n)
theorem D9_ok : ∀ n g a K, D9 n g a K -> callM C X0 n g a K := fun n => orC_ok (Z0_ok hX n) (D8_ok hX n)
abbrev Z38.a : List TS := [.c (.o (.int .u8))]
def Z38.u (n : Nat) (v : VA Z38.a) (K : RES -> Prop) : Prop := Z38.c n v.1 (fun r0 => K ⟨.c (.bool r0), []⟩)
theorem Z38_ok : ∀ n v K, Z38.u n v K -> callM C X0 n 216 (fillA Z38.a v) K :=
 call_tell hX (fn := Try.f216) (c := bodyOf Try.f216) (by kernel_rfl) (by kernel_rfl) (A := Z38.a) (u := Z38.u) (fun _ _ h => h) (call := D9) (lp := fun n => noL) (D9_ok hX) (fun n => noL_ok) (fun n v K => by kernel_rfl)
def D10 (n : Nat) : CallF := orC 216 Z38.a (Z38.u n) (D9 n)
theorem D10_ok : ∀ n g a K, D10 n g a K -> callM C X0 n g a K := fun n => orC_ok (Z38_ok hX n) (D9_ok hX n)
abbrev Z41.a : List TS := [.c (.o .str)]
def Z41.u (n : Nat) (v : VA Z41.a) (K : RES -> Prop) : Prop := Z41.c n v.1 (fun r0 => K ⟨.c (.bool r0), []⟩)
abbrev Z41.l4.s : ST := ⟨[(0, .c (.o .str)), (3, .c (.o (.int .i64)))], [], [], [], []⟩
def Z41.l4.u (n : Nat) (v : Z41.l4.s.V) (K : X -> St -> Prop) : Prop := Z41.l4 n v.1.1 v.1.2.1 (K (.exit 0) ⟨[], [], [], [], []⟩) (fun y0 => K .ret ⟨[(2, .c (.bool y0))], [], [], [], []⟩)
theorem Z41.l4_ok : ∀ n v K, Z41.l4.u n v K -> loopM C X0 n 193 4 (Z41.l4.s.fill v) K :=
 loop_tell hX (fn := Try.f193) (c := bodyOf Try.f193) (a := loopOf Try.f193 4) (li := liOf (C.fi 193).loops 4) (by kernel_rfl) (by kernel_rfl) (of_decide_eq_true rfl) (by kernel_rfl) (by kernel_rfl) (T := Z41.l4.s) (u := Z41.l4.u) (fun _ _ h => h) (call := D10) (lp := fun n => noL) (D10_ok hX) (fun n => noL_ok) (fun n v K => by kernel_rfl)
theorem Z41_ok : ∀ n v K, Z41.u n v K -> callM C X0 n 193 (fillA Z41.a v) K :=
 call_tell hX (fn := Try.f193) (c := bodyOf Try.f193) (by kernel_rfl) (by kernel_rfl) (A := Z41.a) (u := Z41.u) (fun _ _ h => h) (call := D10) (lp := fun n => orL 4 Z41.l4.s (Z41.l4.u n) noL) (D10_ok hX) (fun n => (orL_ok (Z41.l4_ok hX n) noL_ok)) (fun n v K => by kernel_rfl)
def D11 (n : Nat) : CallF := orC 193 Z41.a (Z41.u n) (D10 n)
theorem D11_ok : ∀ n g a K, D11 n g a K -> callM C X0 n g a K := fun n => orC_ok (Z41_ok hX n) (D10_ok hX n)
abbrev Z31.a : List TS := [.c (.o (.dat 167 Y21))]
def Z31.u (n : Nat) (v : VA Z31.a) (K : RES -> Prop) : Prop := Z31.c n v.1 (fun r0 => K ⟨.c (.bool r0), []⟩)
abbrev Z31.l10.s : ST := ⟨[(0, .c (.o (.dat 167 Y21))), (3, .c (.o (.int .i64))), (4, .c (.o (.int .i64))), (5, .c (.o (.int .i64)))], [], [], [], []⟩
def Z31.l10.u (n : Nat) (v : Z31.l10.s.V) (K : X -> St -> Prop) : Prop := Z31.l10 n v.1.1 v.1.2.1 v.1.2.2.1 v.1.2.2.2.1 (fun y0 y1 y2 => K (.exit 2) ⟨[(0, .c (.dat 167 Y21 y0)), (3, .c (.int .i64 y1)), (4, .c (.int .i64 y2))], [], [], [], []⟩) (fun y0 => K .ret ⟨[(2, .c (.bool y0))], [], [], [], []⟩)
abbrev Z31.l5.s : ST := ⟨[(0, .c (.o (.dat 167 Y21))), (3, .c (.o (.int .i64))), (4, .c (.o (.int .i64)))], [], [], [], []⟩
def Z31.l5.u (n : Nat) (v : Z31.l5.s.V) (K : X -> St -> Prop) : Prop := Z31.l5 n v.1.1 v.1.2.1 v.1.2.2.1 (fun y0 => K (.exit 0) ⟨[(3, .c (.int .i64 y0))], [], [], [], []⟩) (fun y0 => K .ret ⟨[(2, .c (.bool y0))], [], [], [], []⟩)
theorem Z31.l10_ok : ∀ n v K, Z31.l10.u n v K -> loopM C X0 n 133 10 (Z31.l10.s.fill v) K :=
 loop_tell hX (fn := Try.f133) (c := bodyOf Try.f133) (a := loopOf Try.f133 10) (li := liOf (C.fi 133).loops 10) (by kernel_rfl) (by kernel_rfl) (of_decide_eq_true rfl) (by kernel_rfl) (by kernel_rfl) (T := Z31.l10.s) (u := Z31.l10.u) (fun _ _ h => h) (call := D11) (lp := fun n => noL) (D11_ok hX) (fun n => noL_ok) (fun n v K => by kernel_rfl)
theorem Z31.l5_ok : ∀ n v K, Z31.l5.u n v K -> loopM C X0 n 133 5 (Z31.l5.s.fill v) K :=
 loop_tell hX (fn := Try.f133) (c := bodyOf Try.f133) (a := loopOf Try.f133 5) (li := liOf (C.fi 133).loops 5) (by kernel_rfl) (by kernel_rfl) (of_decide_eq_true rfl) (by kernel_rfl) (by kernel_rfl) (T := Z31.l5.s) (u := Z31.l5.u) (fun _ _ h => h) (call := D11) (lp := fun n => orL 10 Z31.l10.s (Z31.l10.u n) noL) (D11_ok hX) (fun n => (orL_ok (Z31.l10_ok hX n) noL_ok)) (fun n v K => by kernel_rfl)
theorem Z31_ok : ∀ n v K, Z31.u n v K -> callM C X0 n 133 (fillA Z31.a v) K :=
 call_tell hX (fn := Try.f133) (c := bodyOf Try.f133) (by kernel_rfl) (by kernel_rfl) (A := Z31.a) (u := Z31.u) (fun _ _ h => h) (call := D11) (lp := fun n => orL 5 Z31.l5.s (Z31.l5.u n) noL) (D11_ok hX) (fun n => (orL_ok (Z31.l5_ok hX n) noL_ok)) (fun n v K => by kernel_rfl)
def D12 (n : Nat) : CallF := orC 133 Z31.a (Z31.u n) (D11 n)
theorem D12_ok : ∀ n g a K, D12 n g a K -> callM C X0 n g a K := fun n => orC_ok (Z31_ok hX n) (D11_ok hX n)
abbrev Z58.a : List TS := [.c (.o (.int .i64))]
def Z58.u (n : Nat) (v : VA Z58.a) (K : RES -> Prop) : Prop := Z58.c n v.1 (fun r0 => K ⟨.c (.bool r0), []⟩)
theorem Z58_ok : ∀ n v K, Z58.u n v K -> callM C X0 n 210 (fillA Z58.a v) K :=
 call_tell hX (fn := Try.f210) (c := bodyOf Try.f210) (by kernel_rfl) (by kernel_rfl) (A := Z58.a) (u := Z58.u) (fun _ _ h => h) (call := D12) (lp := fun n => noL) (D12_ok hX) (fun n => noL_ok) (fun n v K => by kernel_rfl)
def D13 (n : Nat) : CallF := orC 210 Z58.a (Z58.u n) (D12 n)
theorem D13_ok : ∀ n g a K, D13 n g a K -> callM C X0 n g a K := fun n => orC_ok (Z58_ok hX n) (D12_ok hX n)
abbrev Z55.a : List TS := [.c (.o (.dat 167 Y21)), .a [.o (.int .i64), .o (.int .i64), .o (.int .i64), .o (.int .i64), .o (.int .i64), .o (.dat 155 (.int .u64)), .o (.dat 2 (.int .i64))], .c (.o (.int .i64))]
def Z55.u (n : Nat) (v : VA Z55.a) (K : RES -> Prop) : Prop := Z55.c n v.1 v.2.1.1 v.2.1.2.1 v.2.1.2.2.1 v.2.1.2.2.2.1 v.2.1.2.2.2.2.1 v.2.1.2.2.2.2.2.1 v.2.1.2.2.2.2.2.2.1 v.2.2.1 (fun r0 => K ⟨.c (.bool r0), []⟩)
abbrev Z55.l2.s : ST := ⟨[(0, .c (.o (.dat 167 Y21))), (2, .c (.o (.int .i64))), (4, .c (.o (.pbox 4 0))), (7, .c (.o (.int .i64)))], [], [⟨4, 174, [.o (.int .i64), .o (.int .i64), .o (.int .i64), .o (.int .i64), .o (.int .i64), .o (.dat 155 (.int .u64)), .o (.dat 2 (.int .i64))], false⟩], [], []⟩
def Z55.l2.u (n : Nat) (v : Z55.l2.s.V) (K : X -> St -> Prop) : Prop := Z55.l2 n v.1.1 v.1.2.1 v.2.2.1.1 v.2.2.1.2.1 v.2.2.1.2.2.1 v.2.2.1.2.2.2.1 v.2.2.1.2.2.2.2.1 v.2.2.1.2.2.2.2.2.1 v.2.2.1.2.2.2.2.2.2.1 v.1.2.2.2.1 (fun y0 y1 y2 y3 y4 y5 y6 y7 => K (.exit 0) ⟨[(0, .c (.dat 167 Y21 y0)), (4, .c (.pbox 4 0))], [], [(4, ⟨174, [.int .i64 y1, .int .i64 y2, .int .i64 y3, .int .i64 y4, .int .i64 y5, .dat 155 (.int .u64) y6, .dat 2 (.int .i64) y7], false⟩)], [], []⟩) (fun y0 => K .ret ⟨[(6, .c (.bool y0))], [], [], [], []⟩)
abbrev Z55.q7.s : ST := ⟨[(0, .c (.o (.dat 167 Y21))), (4, .c (.o (.pbox 4 0))), (63, .c (.o .bool))], [], [⟨4, 174, [.o (.int .i64), .o (.int .i64), .o (.int .i64), .o (.int .i64), .o (.int .i64), .o (.dat 155 (.int .u64)), .o (.dat 2 (.int .i64))], false⟩], [], []⟩
def Z55.q7.u (n : Nat) (v : Z55.q7.s.V) (K : X -> St -> Prop) : Prop := Z55.q7 n v.1.1 v.1.2.2.1 v.2.2.1.1 v.2.2.1.2.1 v.2.2.1.2.2.1 v.2.2.1.2.2.2.1 v.2.2.1.2.2.2.2.1 v.2.2.1.2.2.2.2.2.1 v.2.2.1.2.2.2.2.2.2.1 (fun y0 => K .ret ⟨[(6, .c (.bool y0))], [], [], [], []⟩) (fun y0 y1 y2 y3 y4 y5 y6 y7 => K .normal ⟨[(0, .c (.dat 167 Y21 y0)), (4, .c (.pbox 4 0))], [], [(4, ⟨174, [.int .i64 y1, .int .i64 y2, .int .i64 y3, .int .i64 y4, .int .i64 y5, .dat 155 (.int .u64) y6, .dat 2 (.int .i64) y7], false⟩)], [], []⟩)
abbrev Z55.q8.s : ST := ⟨[(0, .c (.o (.dat 167 Y21))), (4, .c (.o (.pbox 4 0)))], [], [⟨4, 174, [.o (.int .i64), .o (.int .i64), .o (.int .i64), .o (.int .i64), .o (.int .i64), .o (.dat 155 (.int .u64)), .o (.dat 2 (.int .i64))], false⟩], [], []⟩
def Z55.q8.u (n : Nat) (v : Z55.q8.s.V) (K : X -> St -> Prop) : Prop := Z55.q8 n v.1.1 v.2.2.1.1 v.2.2.1.2.1 v.2.2.1.2.2.1 v.2.2.1.2.2.2.1 v.2.2.1.2.2.2.2.1 v.2.2.1.2.2.2.2.2.1 v.2.2.1.2.2.2.2.2.2.1 (fun y0 => K .ret ⟨[(6, .c (.bool y0))], [], [], [], []⟩)
theorem Z55.l2_ok : ∀ n v K, Z55.l2.u n v K -> loopM C X0 n 186 2 (Z55.l2.s.fill v) K :=
 loop_tell hX (fn := Try.f186) (c := bodyOf Try.f186) (a := loopOf Try.f186 2) (li := liOf (C.fi 186).loops 2) (by kernel_rfl) (by kernel_rfl) (of_decide_eq_true rfl) (by kernel_rfl) (by kernel_rfl) (T := Z55.l2.s) (u := Z55.l2.u) (fun _ _ h => h) (call := D13) (lp := fun n => noL) (D13_ok hX) (fun n => noL_ok) (fun n v K => by kernel_rfl)
theorem Z55.q7_ok : ∀ n v K, Z55.q7.u n v K -> loopM C X0 n 186 1000007 (Z55.q7.s.fill v) K :=
 cut_tell hX (fn := Try.f186) (c := bodyOf Try.f186) (a := cutOf Try.f186 7) (li := liOf (C.fi 186).loops 1000007) (by kernel_rfl) (by kernel_rfl) (of_decide_eq_true rfl) (by kernel_rfl) (by kernel_rfl) (T := Z55.q7.s) (u := Z55.q7.u) (fun _ _ h => h) (call := D13) (lp := fun n => noL) (D13_ok hX) (fun n => noL_ok) (fun n v K => by kernel_rfl)
theorem Z55.q8_ok : ∀ n v K, Z55.q8.u n v K -> loopM C X0 n 186 1000008 (Z55.q8.s.fill v) K :=
 cut_tell hX (fn := Try.f186) (c := bodyOf Try.f186) (a := cutOf Try.f186 8) (li := liOf (C.fi 186).loops 1000008) (by kernel_rfl) (by kernel_rfl) (of_decide_eq_true rfl) (by kernel_rfl) (by kernel_rfl) (T := Z55.q8.s) (u := Z55.q8.u) (fun _ _ h => h) (call := D13) (lp := fun n => noL) (D13_ok hX) (fun n => noL_ok) (fun n v K => by kernel_rfl)
theorem Z55_ok : ∀ n v K, Z55.u n v K -> callM C X0 n 186 (fillA Z55.a v) K :=
 call_tell hX (fn := Try.f186) (c := bodyOf Try.f186) (by kernel_rfl) (by kernel_rfl) (A := Z55.a) (u := Z55.u) (fun _ _ h => h) (call := D13) (lp := fun n => orL 2 Z55.l2.s (Z55.l2.u n) (orL 1000007 Z55.q7.s (Z55.q7.u n) (orL 1000008 Z55.q8.s (Z55.q8.u n) noL))) (D13_ok hX) (fun n => (orL_ok (Z55.l2_ok hX n) (orL_ok (Z55.q7_ok hX n) (orL_ok (Z55.q8_ok hX n) noL_ok)))) (fun n v K => by kernel_rfl)
def D14 (n : Nat) : CallF := orC 186 Z55.a (Z55.u n) (D13 n)
theorem D14_ok : ∀ n g a K, D14 n g a K -> callM C X0 n g a K := fun n => orC_ok (Z55_ok hX n) (D13_ok hX n)
abbrev Z60.a : List TS := [.c (.o (.dat 167 Y21)), .a [.o (.int .i64), .o (.int .i64), .o (.int .i64), .o (.int .i64), .o (.int .i64), .o (.dat 155 (.int .u64)), .o (.dat 2 (.int .i64))], .c (.o (.dat 2 (.int .i64)))]
def Z60.u (n : Nat) (v : VA Z60.a) (K : RES -> Prop) : Prop := Z60.c n v.1 v.2.1.1 v.2.1.2.1 v.2.1.2.2.1 v.2.1.2.2.2.1 v.2.1.2.2.2.2.1 v.2.1.2.2.2.2.2.1 v.2.1.2.2.2.2.2.2.1 v.2.2.1 (fun r0 => K ⟨.c (.int .i64 r0), []⟩)
abbrev Z60.l3.s : ST := ⟨[(0, .c (.o (.dat 167 Y21))), (2, .c (.o (.dat 2 (.int .i64)))), (4, .c (.o (.pbox 4 0))), (7, .c (.o (.int .i64))), (8, .c (.o (.int .i64)))], [], [⟨4, 174, [.o (.int .i64), .o (.int .i64), .o (.int .i64), .o (.int .i64), .o (.int .i64), .o (.dat 155 (.int .u64)), .o (.dat 2 (.int .i64))], false⟩], [], []⟩
def Z60.l3.u (n : Nat) (v : Z60.l3.s.V) (K : X -> St -> Prop) : Prop := Z60.l3 n v.1.1 v.1.2.1 v.2.2.1.1 v.2.2.1.2.1 v.2.2.1.2.2.1 v.2.2.1.2.2.2.1 v.2.2.1.2.2.2.2.1 v.2.2.1.2.2.2.2.2.1 v.2.2.1.2.2.2.2.2.2.1 v.1.2.2.2.1 v.1.2.2.2.2.1 (fun y0 y1 y2 y3 y4 y5 y6 y7 y8 => K (.exit 0) ⟨[(0, .c (.dat 167 Y21 y0)), (4, .c (.pbox 4 0)), (7, .c (.int .i64 y1))], [], [(4, ⟨174, [.int .i64 y2, .int .i64 y3, .int .i64 y4, .int .i64 y5, .int .i64 y6, .dat 155 (.int .u64) y7, .dat 2 (.int .i64) y8], false⟩)], [], []⟩)
theorem Z60.l3_ok : ∀ n v K, Z60.l3.u n v K -> loopM C X0 n 187 3 (Z60.l3.s.fill v) K :=
 loop_tell hX (fn := Try.f187) (c := bodyOf Try.f187) (a := loopOf Try.f187 3) (li := liOf (C.fi 187).loops 3) (by kernel_rfl) (by kernel_rfl) (of_decide_eq_true rfl) (by kernel_rfl) (by kernel_rfl) (T := Z60.l3.s) (u := Z60.l3.u) (fun _ _ h => h) (call := D14) (lp := fun n => noL) (D14_ok hX) (fun n => noL_ok) (fun n v K => by kernel_rfl)
theorem Z60_ok : ∀ n v K, Z60.u n v K -> callM C X0 n 187 (fillA Z60.a v) K :=
 call_tell hX (fn := Try.f187) (c := bodyOf Try.f187) (by kernel_rfl) (by kernel_rfl) (A := Z60.a) (u := Z60.u) (fun _ _ h => h) (call := D14) (lp := fun n => orL 3 Z60.l3.s (Z60.l3.u n) noL) (D14_ok hX) (fun n => (orL_ok (Z60.l3_ok hX n) noL_ok)) (fun n v K => by kernel_rfl)
def D15 (n : Nat) : CallF := orC 187 Z60.a (Z60.u n) (D14 n)
theorem D15_ok : ∀ n g a K, D15 n g a K -> callM C X0 n g a K := fun n => orC_ok (Z60_ok hX n) (D14_ok hX n)
abbrev Z61.a : List TS := [.c (.o (.dat 167 Y21)), .a [.o (.dat 174 Y9)]]
def Z61.u (n : Nat) (v : VA Z61.a) (K : RES -> Prop) : Prop := Z61.c n v.1 v.2.1.1 (fun r0 => K ⟨.c (.row ⟨2, .int .i64, r0, 99, none⟩), []⟩)
abbrev Z61.l16.s : ST := ⟨[(0, .c (.o (.dat 167 Y21))), (3, .c (.o (.pbox 3 0))), (5, .c (.o (.own 384))), (6, .c (.o (.own 2112))), (7, .c (.o (.own 1056))), (8, .c (.o (.int .i64))), (10, .c (.o (.int .i64)))], [⟨384, 2, .int .i64, 99⟩, ⟨1056, 4, .bool, 99⟩, ⟨2112, 2, .int .i64, 99⟩], [⟨3, 82, [.o (.dat 174 Y9)], false⟩], [], []⟩
def Z61.l16.u (n : Nat) (v : Z61.l16.s.V) (K : X -> St -> Prop) : Prop := Z61.l16 n v.1.1 v.1.2.2.2.2.2.1 v.2.1.1 v.2.1.2.2.1 v.2.2.1.1 v.1.2.2.2.2.2.2.1 v.2.1.2.1 (fun y0 y1 y2 y3 y4 y5 => K (.exit 2) ⟨[(0, .c (.dat 167 Y21 y0)), (3, .c (.pbox 3 0)), (5, .c (.own 384)), (6, .c (.own 2112)), (7, .c (.own 1056)), (8, .c (.int .i64 y1))], [(384, ⟨2, .int .i64, y2, 99, none⟩), (1056, ⟨4, .bool, y3, 99, none⟩), (2112, ⟨2, .int .i64, y4, 99, none⟩)], [(3, ⟨82, [.dat 174 Y9 y5], false⟩)], [], []⟩)
abbrev Z61.l7.s : ST := ⟨[(0, .c (.o (.dat 167 Y21))), (3, .c (.o (.pbox 3 0))), (5, .c (.o (.own 384))), (6, .c (.o (.own 192))), (7, .c (.o (.own 1056))), (8, .c (.o (.int .i64)))], [⟨192, 2, .int .i64, 99⟩, ⟨384, 2, .int .i64, 99⟩, ⟨1056, 4, .bool, 99⟩], [⟨3, 82, [.o (.dat 174 Y9)], false⟩], [], []⟩
def Z61.l7.u (n : Nat) (v : Z61.l7.s.V) (K : X -> St -> Prop) : Prop := Z61.l7 n v.1.1 v.1.2.2.2.2.2.1 v.2.1.1 v.2.1.2.1 v.2.1.2.2.1 v.2.2.1.1 (fun y0 y1 y2 => K (.exit 0) ⟨[(5, .c (.own 384)), (6, .c (.own 192)), (7, .c (.own 1056))], [(192, ⟨2, .int .i64, y0, 99, none⟩), (384, ⟨2, .int .i64, y1, 99, none⟩), (1056, ⟨4, .bool, y2, 99, none⟩)], [], [], []⟩) (fun y0 => K .ret ⟨[(4, .c (.own 384))], [(384, ⟨2, .int .i64, y0, 99, none⟩)], [], [], []⟩)
abbrev Z61.l20.s : ST := ⟨[(5, .c (.o (.own 384))), (6, .c (.o (.own 192))), (7, .c (.o (.own 1056))), (11, .c (.o (.int .i64)))], [⟨192, 2, .int .i64, 99⟩, ⟨384, 2, .int .i64, 99⟩, ⟨1056, 4, .bool, 99⟩], [], [], []⟩
def Z61.l20.u (n : Nat) (v : Z61.l20.s.V) (K : X -> St -> Prop) : Prop := Z61.l20 n v.2.1.1 v.2.1.2.1 v.2.1.2.2.1 v.1.2.2.2.1 (fun y0 => K (.exit 4) ⟨[(6, .c (.own 192))], [(192, ⟨2, .int .i64, y0, 99, none⟩)], [], [], []⟩) (fun y0 => K .ret ⟨[(4, .c (.own 384))], [(384, ⟨2, .int .i64, y0, 99, none⟩)], [], [], []⟩)
theorem Z61.l16_ok : ∀ n v K, Z61.l16.u n v K -> loopM C X0 n 125 16 (Z61.l16.s.fill v) K :=
 loop_tell hX (fn := Try.f125) (c := bodyOf Try.f125) (a := loopOf Try.f125 16) (li := liOf (C.fi 125).loops 16) (by kernel_rfl) (by kernel_rfl) (of_decide_eq_true rfl) (by kernel_rfl) (by kernel_rfl) (T := Z61.l16.s) (u := Z61.l16.u) (fun _ _ h => h) (call := D15) (lp := fun n => noL) (D15_ok hX) (fun n => noL_ok) (fun n v K => by kernel_rfl)
theorem Z61.l7_ok : ∀ n v K, Z61.l7.u n v K -> loopM C X0 n 125 7 (Z61.l7.s.fill v) K :=
 loop_tell hX (fn := Try.f125) (c := bodyOf Try.f125) (a := loopOf Try.f125 7) (li := liOf (C.fi 125).loops 7) (by kernel_rfl) (by kernel_rfl) (of_decide_eq_true rfl) (by kernel_rfl) (by kernel_rfl) (T := Z61.l7.s) (u := Z61.l7.u) (fun _ _ h => h) (call := D15) (lp := fun n => orL 16 Z61.l16.s (Z61.l16.u n) noL) (D15_ok hX) (fun n => (orL_ok (Z61.l16_ok hX n) noL_ok)) (fun n v K => by kernel_rfl)
theorem Z61.l20_ok : ∀ n v K, Z61.l20.u n v K -> loopM C X0 n 125 20 (Z61.l20.s.fill v) K :=
 loop_tell hX (fn := Try.f125) (c := bodyOf Try.f125) (a := loopOf Try.f125 20) (li := liOf (C.fi 125).loops 20) (by kernel_rfl) (by kernel_rfl) (of_decide_eq_true rfl) (by kernel_rfl) (by kernel_rfl) (T := Z61.l20.s) (u := Z61.l20.u) (fun _ _ h => h) (call := D15) (lp := fun n => noL) (D15_ok hX) (fun n => noL_ok) (fun n v K => by kernel_rfl)
theorem Z61_ok : ∀ n v K, Z61.u n v K -> callM C X0 n 125 (fillA Z61.a v) K :=
 call_tell hX (fn := Try.f125) (c := bodyOf Try.f125) (by kernel_rfl) (by kernel_rfl) (A := Z61.a) (u := Z61.u) (fun _ _ h => h) (call := D15) (lp := fun n => orL 7 Z61.l7.s (Z61.l7.u n) (orL 20 Z61.l20.s (Z61.l20.u n) noL)) (D15_ok hX) (fun n => (orL_ok (Z61.l7_ok hX n) (orL_ok (Z61.l20_ok hX n) noL_ok))) (fun n v K => by kernel_rfl)
def D16 (n : Nat) : CallF := orC 125 Z61.a (Z61.u n) (D15 n)
theorem D16_ok : ∀ n g a K, D16 n g a K -> callM C X0 n g a K := fun n => orC_ok (Z61_ok hX n) (D15_ok hX n)
abbrev Z36.a : List TS := [.c (.o (.dat 167 Y21)), .a [.o (.dat 174 Y9)]]
def Z36.u (n : Nat) (v : VA Z36.a) (K : RES -> Prop) : Prop := Z36.c n v.1 v.2.1.1 (fun r0 => K ⟨.c (.int .i64 r0), []⟩)
theorem Z36_ok : ∀ n v K, Z36.u n v K -> callM C X0 n 50 (fillA Z36.a v) K :=
 call_tell hX (fn := Try.f50) (c := bodyOf Try.f50) (by kernel_rfl) (by kernel_rfl) (A := Z36.a) (u := Z36.u) (fun _ _ h => h) (call := D16) (lp := fun n => noL) (D16_ok hX) (fun n => noL_ok) (fun n v K => by kernel_rfl)
def D17 (n : Nat) : CallF := orC 50 Z36.a (Z36.u n) (D16 n)
theorem D17_ok : ∀ n g a K, D17 n g a K -> callM C X0 n g a K := fun n => orC_ok (Z36_ok hX n) (D16_ok hX n)
abbrev Z19.a : List TS := [.c (.o .str)]
def Z19.u (n : Nat) (v : VA Z19.a) (K : RES -> Prop) : Prop := Z19.c n v.1 (fun r0 => K ⟨.c (.bool r0), []⟩)
abbrev Z19.l4.s : ST := ⟨[(0, .c (.o .str)), (3, .c (.o (.int .i64)))], [], [], [], []⟩
def Z19.l4.u (n : Nat) (v : Z19.l4.s.V) (K : X -> St -> Prop) : Prop := Z19.l4 n v.1.1 v.1.2.1 (K (.exit 0) ⟨[], [], [], [], []⟩) (fun y0 => K .ret ⟨[(2, .c (.bool y0))], [], [], [], []⟩)
theorem Z19.l4_ok : ∀ n v K, Z19.l4.u n v K -> loopM C X0 n 189 4 (Z19.l4.s.fill v) K :=
 loop_tell hX (fn := Try.f189) (c := bodyOf Try.f189) (a := loopOf Try.f189 4) (li := liOf (C.fi 189).loops 4) (by kernel_rfl) (by kernel_rfl) (of_decide_eq_true rfl) (by kernel_rfl) (by kernel_rfl) (T := Z19.l4.s) (u := Z19.l4.u) (fun _ _ h => h) (call := D17) (lp := fun n => noL) (D17_ok hX) (fun n => noL_ok) (fun n v K => by kernel_rfl)
theorem Z19_ok : ∀ n v K, Z19.u n v K -> callM C X0 n 189 (fillA Z19.a v) K :=
 call_tell hX (fn := Try.f189) (c := bodyOf Try.f189) (by kernel_rfl) (by kernel_rfl) (A := Z19.a) (u := Z19.u) (fun _ _ h => h) (call := D17) (lp := fun n => orL 4 Z19.l4.s (Z19.l4.u n) noL) (D17_ok hX) (fun n => (orL_ok (Z19.l4_ok hX n) noL_ok)) (fun n v K => by kernel_rfl)
def D18 (n : Nat) : CallF := orC 189 Z19.a (Z19.u n) (D17 n)
theorem D18_ok : ∀ n g a K, D18 n g a K -> callM C X0 n g a K := fun n => orC_ok (Z19_ok hX n) (D17_ok hX n)
abbrev Z14.a : List TS := [.a [.o .str, .o (.int .i64)], .c (.o (.pdat 9 .str 0))]
def Z14.u (n : Nat) (v : VA Z14.a) (K : RES -> Prop) : Prop := Z14.c n v.1.1 v.1.2.1 v.2.1 (fun r0 => K ⟨.c (.bool r0), []⟩)
theorem Z14_ok : ∀ n v K, Z14.u n v K -> callM C X0 n 212 (fillA Z14.a v) K :=
 call_tell hX (fn := Try.f212) (c := bodyOf Try.f212) (by kernel_rfl) (by kernel_rfl) (A := Z14.a) (u := Z14.u) (fun _ _ h => h) (call := D18) (lp := fun n => noL) (D18_ok hX) (fun n => noL_ok) (fun n v K => by kernel_rfl)
def D19 (n : Nat) : CallF := orC 212 Z14.a (Z14.u n) (D18 n)
theorem D19_ok : ∀ n g a K, D19 n g a K -> callM C X0 n g a K := fun n => orC_ok (Z14_ok hX n) (D18_ok hX n)
abbrev Z29.a : List TS := [.c (.o (.dat 167 Y21)), .c (.fn 212 [(false, 1)] 0 [.pdat 9 .str 0])]
def Z29.u (n : Nat) (v : VA Z29.a) (K : RES -> Prop) : Prop := Z29.c n v.1 v.2.1.1 (fun r0 => K ⟨.c (.int .i64 r0), []⟩)
abbrev Z29.l2.s : ST := ⟨[(0, .c (.o (.dat 167 Y21))), (1, .c (.fn 212 [(false, 1)] 0 [.pdat 9 .str 0])), (7, .c (.o (.int .i64))), (8, .c (.o (.int .i64)))], [], [], [], []⟩
def Z29.l2.u (n : Nat) (v : Z29.l2.s.V) (K : X -> St -> Prop) : Prop := Z29.l2 n v.1.1 v.1.2.1.1 v.1.2.2.1 v.1.2.2.2.1 (K (.exit 0) ⟨[], [], [], [], []⟩) (fun y0 => K .ret ⟨[(4, .c (.int .i64 y0))], [], [], [], []⟩)
theorem Z29.l2_ok : ∀ n v K, Z29.l2.u n v K -> loopM C X0 n 211 2 (Z29.l2.s.fill v) K :=
 loop_tell hX (fn := Try.f211) (c := bodyOf Try.f211) (a := loopOf Try.f211 2) (li := liOf (C.fi 211).loops 2) (by kernel_rfl) (by kernel_rfl) (of_decide_eq_true rfl) (by kernel_rfl) (by kernel_rfl) (T := Z29.l2.s) (u := Z29.l2.u) (fun _ _ h => h) (call := D19) (lp := fun n => noL) (D19_ok hX) (fun n => noL_ok) (fun n v K => by kernel_rfl)
theorem Z29_ok : ∀ n v K, Z29.u n v K -> callM C X0 n 211 (fillA Z29.a v) K :=
 call_tell hX (fn := Try.f211) (c := bodyOf Try.f211) (by kernel_rfl) (by kernel_rfl) (A := Z29.a) (u := Z29.u) (fun _ _ h => h) (call := D19) (lp := fun n => orL 2 Z29.l2.s (Z29.l2.u n) noL) (D19_ok hX) (fun n => (orL_ok (Z29.l2_ok hX n) noL_ok)) (fun n v K => by kernel_rfl)
def D20 (n : Nat) : CallF := orC 211 Z29.a (Z29.u n) (D19 n)
theorem D20_ok : ∀ n g a K, D20 n g a K -> callM C X0 n g a K := fun n => orC_ok (Z29_ok hX n) (D19_ok hX n)
abbrev Z13.a : List TS := [.c (.o (.dat 167 Y21)), .c (.o .str)]
def Z13.u (n : Nat) (v : VA Z13.a) (K : RES -> Prop) : Prop := Z13.c n v.1 v.2.1 (fun r0 => K ⟨.c (.int .i64 r0), []⟩)
theorem Z13_ok : ∀ n v K, Z13.u n v K -> callM C X0 n 190 (fillA Z13.a v) K :=
 call_tell hX (fn := Try.f190) (c := bodyOf Try.f190) (by kernel_rfl) (by kernel_rfl) (A := Z13.a) (u := Z13.u) (fun _ _ h => h) (call := D20) (lp := fun n => noL) (D20_ok hX) (fun n => noL_ok) (fun n v K => by kernel_rfl)
def D21 (n : Nat) : CallF := orC 190 Z13.a (Z13.u n) (D20 n)
theorem D21_ok : ∀ n g a K, D21 n g a K -> callM C X0 n g a K := fun n => orC_ok (Z13_ok hX n) (D20_ok hX n)
abbrev Z4.a : List TS := [.c (.o (.dat 167 Y21))]
def Z4.u (n : Nat) (v : VA Z4.a) (K : RES -> Prop) : Prop := Z4.c n v.1 (fun r0 => K ⟨.c (.bool r0), []⟩)
abbrev Z4.l5.s : ST := ⟨[(0, .c (.o (.dat 167 Y21))), (3, .c (.o (.int .i64))), (9, .c (.o (.dat 167 Y21))), (10, .c (.o (.int .i64))), (11, .c (.o (.int .i64)))], [], [], [], []⟩
def Z4.l5.u (n : Nat) (v : Z4.l5.s.V) (K : X -> St -> Prop) : Prop := Z4.l5 n v.1.1 v.1.2.2.1 v.1.2.2.2.1 v.1.2.1 v.1.2.2.2.2.1 (fun y0 => K (.exit 0) ⟨[(3, .c (.int .i64 y0))], [], [], [], []⟩) (fun y0 => K .ret ⟨[(2, .c (.bool y0))], [], [], [], []⟩)
theorem Z4.l5_ok : ∀ n v K, Z4.l5.u n v K -> loopM C X0 n 128 5 (Z4.l5.s.fill v) K :=
 loop_tell hX (fn := Try.f128) (c := bodyOf Try.f128) (a := loopOf Try.f128 5) (li := liOf (C.fi 128).loops 5) (by kernel_rfl) (by kernel_rfl) (of_decide_eq_true rfl) (by kernel_rfl) (by kernel_rfl) (T := Z4.l5.s) (u := Z4.l5.u) (fun _ _ h => h) (call := D21) (lp := fun n => noL) (D21_ok hX) (fun n => noL_ok) (fun n v K => by kernel_rfl)
theorem Z4_ok : ∀ n v K, Z4.u n v K -> callM C X0 n 128 (fillA Z4.a v) K :=
 call_tell hX (fn := Try.f128) (c := bodyOf Try.f128) (by kernel_rfl) (by kernel_rfl) (A := Z4.a) (u := Z4.u) (fun _ _ h => h) (call := D21) (lp := fun n => orL 5 Z4.l5.s (Z4.l5.u n) noL) (D21_ok hX) (fun n => (orL_ok (Z4.l5_ok hX n) noL_ok)) (fun n v K => by kernel_rfl)
def D22 (n : Nat) : CallF := orC 128 Z4.a (Z4.u n) (D21 n)
theorem D22_ok : ∀ n g a K, D22 n g a K -> callM C X0 n g a K := fun n => orC_ok (Z4_ok hX n) (D21_ok hX n)
abbrev Z25.a : List TS := [.c (.o (.dat 5 (.int .u8)))]
def Z25.u (n : Nat) (v : VA Z25.a) (K : RES -> Prop) : Prop := Z25.c n v.1 (fun r0 => K ⟨.c (.bool r0), []⟩)
theorem Z25_ok : ∀ n v K, Z25.u n v K -> callM C X0 n 32 (fillA Z25.a v) K :=
 call_tell hX (fn := Try.f32) (c := bodyOf Try.f32) (by kernel_rfl) (by kernel_rfl) (A := Z25.a) (u := Z25.u) (fun _ _ h => h) (call := D22) (lp := fun n => noL) (D22_ok hX) (fun n => noL_ok) (fun n v K => by kernel_rfl)
def D23 (n : Nat) : CallF := orC 32 Z25.a (Z25.u n) (D22 n)
theorem D23_ok : ∀ n g a K, D23 n g a K -> callM C X0 n g a K := fun n => orC_ok (Z25_ok hX n) (D22_ok hX n)
abbrev Z42.a : List TS := [.c (.o (.dat 5 (.int .u8)))]
def Z42.u (n : Nat) (v : VA Z42.a) (K : RES -> Prop) : Prop := Z42.c n v.1 (fun r0 r1 => K ⟨.c (.boxr 210 [.dat 5 (.int .u8) r0, .int .i64 r1]), []⟩)
theorem Z42_ok : ∀ n v K, Z42.u n v K -> callM C X0 n 99 (fillA Z42.a v) K :=
 call_tell hX (fn := Try.f99) (c := bodyOf Try.f99) (by kernel_rfl) (by kernel_rfl) (A := Z42.a) (u := Z42.u) (fun _ _ h => h) (call := D23) (lp := fun n => noL) (D23_ok hX) (fun n => noL_ok) (fun n v K => by kernel_rfl)
def D24 (n : Nat) : CallF := orC 99 Z42.a (Z42.u n) (D23 n)
theorem D24_ok : ∀ n g a K, D24 n g a K -> callM C X0 n g a K := fun n => orC_ok (Z42_ok hX n) (D23_ok hX n)
abbrev Z48.a : List TS := [.c (.boxr 210 [.dat 5 (.int .u8), .int .i64])]
def Z48.u (n : Nat) (v : VA Z48.a) (K : RES -> Prop) : Prop := Z48.c n v.1.1 v.1.2.1 (fun r0 r1 r2 => K ⟨.c (.int .i64 r0), [[.boxr 210 [.dat 5 (.int .u8) r1, .int .i64 r2]]]⟩)
theorem Z48_ok : ∀ n v K, Z48.u n v K -> callM C X0 n 204 (fillA Z48.a v) K :=
 call_tell hX (fn := Try.f204) (c := bodyOf Try.f204) (by kernel_rfl) (by kernel_rfl) (A := Z48.a) (u := Z48.u) (fun _ _ h => h) (call := D24) (lp := fun n => noL) (D24_ok hX) (fun n => noL_ok) (fun n v K => by kernel_rfl)
def D25 (n : Nat) : CallF := orC 204 Z48.a (Z48.u n) (D24 n)
theorem D25_ok : ∀ n g a K, D25 n g a K -> callM C X0 n g a K := fun n => orC_ok (Z48_ok hX n) (D24_ok hX n)
abbrev Z43.a : List TS := [.c (.boxr 210 [.dat 5 (.int .u8), .int .i64]), .c (.o (.int .i64))]
def Z43.u (n : Nat) (v : VA Z43.a) (K : RES -> Prop) : Prop := Z43.c n v.1.1 v.1.2.1 v.2.1 (fun r0 r1 r2 => K ⟨.c (.int .i64 r0), [[.boxr 210 [.dat 5 (.int .u8) r1, .int .i64 r2]]]⟩)
theorem Z43_ok : ∀ n v K, Z43.u n v K -> callM C X0 n 168 (fillA Z43.a v) K :=
 call_tell hX (fn := Try.f168) (c := bodyOf Try.f168) (by kernel_rfl) (by kernel_rfl) (A := Z43.a) (u := Z43.u) (fun _ _ h => h) (call := D25) (lp := fun n => noL) (D25_ok hX) (fun n => noL_ok) (fun n v K => by kernel_rfl)
def D26 (n : Nat) : CallF := orC 168 Z43.a (Z43.u n) (D25 n)
theorem D26_ok : ∀ n g a K, D26 n g a K -> callM C X0 n g a K := fun n => orC_ok (Z43_ok hX n) (D25_ok hX n)
abbrev Z50.a : List TS := [.c (.boxr 210 [.dat 5 (.int .u8), .int .i64]), .c (.o (.int .i64))]
def Z50.u (n : Nat) (v : VA Z50.a) (K : RES -> Prop) : Prop := Z50.c n v.1.1 v.1.2.1 v.2.1 (fun r0 r1 r2 => K ⟨.c (.bool r0), [[.boxr 210 [.dat 5 (.int .u8) r1, .int .i64 r2]]]⟩)
theorem Z50_ok : ∀ n v K, Z50.u n v K -> callM C X0 n 101 (fillA Z50.a v) K :=
 call_tell hX (fn := Try.f101) (c := bodyOf Try.f101) (by kernel_rfl) (by kernel_rfl) (A := Z50.a) (u := Z50.u) (fun _ _ h => h) (call := D26) (lp := fun n => noL) (D26_ok hX) (fun n => noL_ok) (fun n v K => by kernel_rfl)
def D27 (n : Nat) : CallF := orC 101 Z50.a (Z50.u n) (D26 n)
theorem D27_ok : ∀ n g a K, D27 n g a K -> callM C X0 n g a K := fun n => orC_ok (Z50_ok hX n) (D26_ok hX n)
abbrev Z51.a : List TS := [.c (.boxr 210 [.dat 5 (.int .u8), .int .i64])]
def Z51.u (n : Nat) (v : VA Z51.a) (K : RES -> Prop) : Prop := Z51.c n v.1.1 v.1.2.1 (fun r0 r1 r2 => K ⟨.c (.int .i64 r0), [[.boxr 210 [.dat 5 (.int .u8) r1, .int .i64 r2]]]⟩)
theorem Z51_ok : ∀ n v K, Z51.u n v K -> callM C X0 n 169 (fillA Z51.a v) K :=
 call_tell hX (fn := Try.f169) (c := bodyOf Try.f169) (by kernel_rfl) (by kernel_rfl) (A := Z51.a) (u := Z51.u) (fun _ _ h => h) (call := D27) (lp := fun n => noL) (D27_ok hX) (fun n => noL_ok) (fun n v K => by kernel_rfl)
def D28 (n : Nat) : CallF := orC 169 Z51.a (Z51.u n) (D27 n)
theorem D28_ok : ∀ n g a K, D28 n g a K -> callM C X0 n g a K := fun n => orC_ok (Z51_ok hX n) (D27_ok hX n)
abbrev Z45.a : List TS := [.c (.boxr 210 [.dat 5 (.int .u8), .int .i64])]
def Z45.u (n : Nat) (v : VA Z45.a) (K : RES -> Prop) : Prop := Z45.c n v.1.1 v.1.2.1 (fun r0 r1 r2 => K ⟨.c (.row ⟨167, .prod .str (.int .i64), r0, 99, none⟩), [[.boxr 210 [.dat 5 (.int .u8) r1, .int .i64 r2]]]⟩)
abbrev Z45.l3.s : ST := ⟨[(0, .c (.o (.pbox 0 0))), (3, .c (.o (.own 96))), (4, .c (.o (.int .i64)))], [⟨96, 167, .prod .str (.int .i64), 99⟩], [⟨0, 210, [.o (.dat 5 (.int .u8)), .o (.int .i64)], false⟩], [], [0]⟩
def Z45.l3.u (n : Nat) (v : Z45.l3.s.V) (K : X -> St -> Prop) : Prop := Z45.l3 n v.1.2.2.1 v.2.1.1 v.2.2.1.1 v.2.2.1.2.1 (fun y0 y1 y2 => K (.exit 0) ⟨[(3, .c (.own 96))], [(96, ⟨167, .prod .str (.int .i64), y0, 99, none⟩)], [(0, ⟨210, [.dat 5 (.int .u8) y1, .int .i64 y2], false⟩)], [], [0]⟩)
theorem Z45.l3_ok : ∀ n v K, Z45.l3.u n v K -> loopM C X0 n 111 3 (Z45.l3.s.fill v) K :=
 loop_tell hX (fn := Try.f111) (c := bodyOf Try.f111) (a := loopOf Try.f111 3) (li := liOf (C.fi 111).loops 3) (by kernel_rfl) (by kernel_rfl) (of_decide_eq_true rfl) (by kernel_rfl) (by kernel_rfl) (T := Z45.l3.s) (u := Z45.l3.u) (fun _ _ h => h) (call := D28) (lp := fun n => noL) (D28_ok hX) (fun n => noL_ok) (fun n v K => by kernel_rfl)
theorem Z45_ok : ∀ n v K, Z45.u n v K -> callM C X0 n 111 (fillA Z45.a v) K :=
 call_tell hX (fn := Try.f111) (c := bodyOf Try.f111) (by kernel_rfl) (by kernel_rfl) (A := Z45.a) (u := Z45.u) (fun _ _ h => h) (call := D28) (lp := fun n => orL 3 Z45.l3.s (Z45.l3.u n) noL) (D28_ok hX) (fun n => (orL_ok (Z45.l3_ok hX n) noL_ok)) (fun n v K => by kernel_rfl)
def D29 (n : Nat) : CallF := orC 111 Z45.a (Z45.u n) (D28 n)
theorem D29_ok : ∀ n g a K, D29 n g a K -> callM C X0 n g a K := fun n => orC_ok (Z45_ok hX n) (D28_ok hX n)
abbrev Z52.a : List TS := [.c (.boxr 210 [.dat 5 (.int .u8), .int .i64])]
def Z52.u (n : Nat) (v : VA Z52.a) (K : RES -> Prop) : Prop := Z52.c n v.1.1 v.1.2.1 (fun r0 r1 r2 => K ⟨.c (.int .u64 r0), [[.boxr 210 [.dat 5 (.int .u8) r1, .int .i64 r2]]]⟩)
abbrev Z52.l3.s : ST := ⟨[(0, .c (.o (.pbox 0 0))), (3, .c (.o (.int .u64))), (4, .c (.o (.int .i64)))], [], [⟨0, 210, [.o (.dat 5 (.int .u8)), .o (.int .i64)], false⟩], [], [0]⟩
def Z52.l3.u (n : Nat) (v : Z52.l3.s.V) (K : X -> St -> Prop) : Prop := Z52.l3 n v.1.2.1 v.1.2.2.1 v.2.2.1.1 v.2.2.1.2.1 (fun y0 y1 y2 => K (.exit 0) ⟨[(3, .c (.int .u64 y0))], [], [(0, ⟨210, [.dat 5 (.int .u8) y1, .int .i64 y2], false⟩)], [], [0]⟩)
theorem Z52.l3_ok : ∀ n v K, Z52.l3.u n v K -> loopM C X0 n 179 3 (Z52.l3.s.fill v) K :=
 loop_tell hX (fn := Try.f179) (c := bodyOf Try.f179) (a := loopOf Try.f179 3) (li := liOf (C.fi 179).loops 3) (by kernel_rfl) (by kernel_rfl) (of_decide_eq_true rfl) (by kernel_rfl) (by kernel_rfl) (T := Z52.l3.s) (u := Z52.l3.u) (fun _ _ h => h) (call := D29) (lp := fun n => noL) (D29_ok hX) (fun n => noL_ok) (fun n v K => by kernel_rfl)
theorem Z52_ok : ∀ n v K, Z52.u n v K -> callM C X0 n 179 (fillA Z52.a v) K :=
 call_tell hX (fn := Try.f179) (c := bodyOf Try.f179) (by kernel_rfl) (by kernel_rfl) (A := Z52.a) (u := Z52.u) (fun _ _ h => h) (call := D29) (lp := fun n => orL 3 Z52.l3.s (Z52.l3.u n) noL) (D29_ok hX) (fun n => (orL_ok (Z52.l3_ok hX n) noL_ok)) (fun n v K => by kernel_rfl)
def D30 (n : Nat) : CallF := orC 179 Z52.a (Z52.u n) (D29 n)
theorem D30_ok : ∀ n g a K, D30 n g a K -> callM C X0 n g a K := fun n => orC_ok (Z52_ok hX n) (D29_ok hX n)
abbrev Z47.a : List TS := [.c (.boxr 210 [.dat 5 (.int .u8), .int .i64]), .c (.o (.int .i64)), .c (.o (.int .i64))]
def Z47.u (n : Nat) (v : VA Z47.a) (K : RES -> Prop) : Prop := Z47.c n v.1.1 v.1.2.1 v.2.1 v.2.2.1 (fun r0 r1 r2 => K ⟨.c (.int .i64 r0), [[.boxr 210 [.dat 5 (.int .u8) r1, .int .i64 r2]]]⟩)
theorem Z47_ok : ∀ n v K, Z47.u n v K -> callM C X0 n 171 (fillA Z47.a v) K :=
 call_tell hX (fn := Try.f171) (c := bodyOf Try.f171) (by kernel_rfl) (by kernel_rfl) (A := Z47.a) (u := Z47.u) (fun _ _ h => h) (call := D30) (lp := fun n => noL) (D30_ok hX) (fun n => noL_ok) (fun n v K => by kernel_rfl)
def D31 (n : Nat) : CallF := orC 171 Z47.a (Z47.u n) (D30 n)
theorem D31_ok : ∀ n g a K, D31 n g a K -> callM C X0 n g a K := fun n => orC_ok (Z47_ok hX n) (D30_ok hX n)
abbrev Z49.a : List TS := [.c (.boxr 210 [.dat 5 (.int .u8), .int .i64]), .c (.o (.int .i64)), .c (.o (.int .i64))]
def Z49.u (n : Nat) (v : VA Z49.a) (K : RES -> Prop) : Prop := Z49.c n v.1.1 v.1.2.1 v.2.1 v.2.2.1 (fun r0 r1 r2 => K ⟨.c (.int .i64 r0), [[.boxr 210 [.dat 5 (.int .u8) r1, .int .i64 r2]]]⟩)
theorem Z49_ok : ∀ n v K, Z49.u n v K -> callM C X0 n 102 (fillA Z49.a v) K :=
 call_tell hX (fn := Try.f102) (c := bodyOf Try.f102) (by kernel_rfl) (by kernel_rfl) (A := Z49.a) (u := Z49.u) (fun _ _ h => h) (call := D31) (lp := fun n => noL) (D31_ok hX) (fun n => noL_ok) (fun n v K => by kernel_rfl)
def D32 (n : Nat) : CallF := orC 102 Z49.a (Z49.u n) (D31 n)
theorem D32_ok : ∀ n g a K, D32 n g a K -> callM C X0 n g a K := fun n => orC_ok (Z49_ok hX n) (D31_ok hX n)
abbrev Z39.a : List TS := [.c (.o (.dat 5 (.int .u8)))]
def Z39.u (n : Nat) (v : VA Z39.a) (K : RES -> Prop) : Prop := Z39.c n v.1 (fun r0 r1 r2 => K ⟨.tup [.agg [.int .i64 r0, .row ⟨155, .int .u64, r1, 99, none⟩], .c (.bool r2)], []⟩)
abbrev Z39.l5.s : ST := ⟨[(0, .c (.o (.dat 5 (.int .u8)))), (2, .c (.o (.pbox 2 0))), (4, .c (.o (.pbox 4 0))), (5, .c (.o (.int .i64)))], [⟨672, 155, .int .u64, 99⟩, ⟨1000065, 155, .int .u64, 99⟩], [⟨2, 58, [.o (.int .i64), .o (.own 1000065)], false⟩, ⟨4, 58, [.o (.int .i64), .o (.own 672)], false⟩], [], []⟩
def Z39.l5.u (n : Nat) (v : Z39.l5.s.V) (K : X -> St -> Prop) : Prop := Z39.l5 n v.1.1 v.2.1.2.1 v.2.2.1.1 v.2.2.2.1.1 v.1.2.2.2.1 v.2.1.1 (fun y0 y1 y2 y3 => K (.exit 0) ⟨[(2, .c (.pbox 2 0)), (4, .c (.pbox 4 0))], [(672, ⟨155, .int .u64, y0, 99, none⟩), (1000065, ⟨155, .int .u64, y1, 99, none⟩)], [(2, ⟨58, [.int .i64 y2, .own 1000065], false⟩), (4, ⟨58, [.int .i64 y3, .own 672], false⟩)], [], []⟩)
theorem Z39.l5_ok : ∀ n v K, Z39.l5.u n v K -> loopM C X0 n 110 5 (Z39.l5.s.fill v) K :=
 loop_tell hX (fn := Try.f110) (c := bodyOf Try.f110) (a := loopOf Try.f110 5) (li := liOf (C.fi 110).loops 5) (by kernel_rfl) (by kernel_rfl) (of_decide_eq_true rfl) (by kernel_rfl) (by kernel_rfl) (T := Z39.l5.s) (u := Z39.l5.u) (fun _ _ h => h) (call := D32) (lp := fun n => noL) (D32_ok hX) (fun n => noL_ok) (fun n v K => by kernel_rfl)
theorem Z39_ok : ∀ n v K, Z39.u n v K -> callM C X0 n 110 (fillA Z39.a v) K :=
 call_tell hX (fn := Try.f110) (c := bodyOf Try.f110) (by kernel_rfl) (by kernel_rfl) (A := Z39.a) (u := Z39.u) (fun _ _ h => h) (call := D32) (lp := fun n => orL 5 Z39.l5.s (Z39.l5.u n) noL) (D32_ok hX) (fun n => (orL_ok (Z39.l5_ok hX n) noL_ok)) (fun n v K => by kernel_rfl)
def D33 (n : Nat) : CallF := orC 110 Z39.a (Z39.u n) (D32 n)
theorem D33_ok : ∀ n g a K, D33 n g a K -> callM C X0 n g a K := fun n => orC_ok (Z39_ok hX n) (D32_ok hX n)
abbrev Z44.a : List TS := [.c (.boxr 210 [.dat 5 (.int .u8), .int .i64]), .c (.o (.int .i64))]
def Z44.u (n : Nat) (v : VA Z44.a) (K : RES -> Prop) : Prop := Z44.c n v.1.1 v.1.2.1 v.2.1 (fun r0 r1 r2 r3 => K ⟨.agg [.int .i64 r0, .row ⟨155, .int .u64, r1, 99, none⟩], [[.boxr 210 [.dat 5 (.int .u8) r2, .int .i64 r3]]]⟩)
abbrev Z44.l5.s : ST := ⟨[(1, .c (.o (.int .i64))), (4, .c (.o (.pbox 4 0))), (5, .c (.o (.own 160))), (6, .c (.o (.int .u64))), (7, .c (.o (.int .i64))), (8, .c (.o (.int .i64)))], [⟨160, 5, .int .u8, 99⟩, ⟨1000129, 155, .int .u64, 99⟩], [⟨0, 210, [.o (.dat 5 (.int .u8)), .o (.int .i64)], false⟩, ⟨4, 58, [.o (.int .i64), .o (.own 1000129)], false⟩], [], [0]⟩
def Z44.l5.u (n : Nat) (v : Z44.l5.s.V) (K : X -> St -> Prop) : Prop := Z44.l5 n v.1.1 v.1.2.2.2.1 v.1.2.2.2.2.1 v.2.1.2.1 v.2.2.1.1 v.2.2.1.2.1 v.2.2.2.1.1 v.1.2.2.2.2.2.1 v.2.1.1 (fun y0 y1 y2 y3 y4 => K (.exit 0) ⟨[(4, .c (.pbox 4 0)), (5, .c (.own 160))], [(160, ⟨5, .int .u8, y0, 99, none⟩), (1000129, ⟨155, .int .u64, y1, 99, none⟩)], [(0, ⟨210, [.dat 5 (.int .u8) y2, .int .i64 y3], false⟩), (4, ⟨58, [.int .i64 y4, .own 1000129], false⟩)], [], [0]⟩)
theorem Z44.l5_ok : ∀ n v K, Z44.l5.u n v K -> loopM C X0 n 170 5 (Z44.l5.s.fill v) K :=
 loop_tell hX (fn := Try.f170) (c := bodyOf Try.f170) (a := loopOf Try.f170 5) (li := liOf (C.fi 170).loops 5) (by kernel_rfl) (by kernel_rfl) (of_decide_eq_true rfl) (by kernel_rfl) (by kernel_rfl) (T := Z44.l5.s) (u := Z44.l5.u) (fun _ _ h => h) (call := D33) (lp := fun n => noL) (D33_ok hX) (fun n => noL_ok) (fun n v K => by kernel_rfl)
theorem Z44_ok : ∀ n v K, Z44.u n v K -> callM C X0 n 170 (fillA Z44.a v) K :=
 call_tell hX (fn := Try.f170) (c := bodyOf Try.f170) (by kernel_rfl) (by kernel_rfl) (A := Z44.a) (u := Z44.u) (fun _ _ h => h) (call := D33) (lp := fun n => orL 5 Z44.l5.s (Z44.l5.u n) noL) (D33_ok hX) (fun n => (orL_ok (Z44.l5_ok hX n) noL_ok)) (fun n v K => by kernel_rfl)
def D34 (n : Nat) : CallF := orC 170 Z44.a (Z44.u n) (D33 n)
theorem D34_ok : ∀ n g a K, D34 n g a K -> callM C X0 n g a K := fun n => orC_ok (Z44_ok hX n) (D33_ok hX n)
abbrev Z26.a : List TS := [.a [.o (.int .i64), .o (.dat 155 (.int .u64))], .a [.o (.int .i64), .o (.dat 155 (.int .u64))]]
def Z26.u (n : Nat) (v : VA Z26.a) (K : RES -> Prop) : Prop := Z26.c n v.1.1 v.1.2.1 v.2.1.1 v.2.1.2.1 (fun r0 => K ⟨.c (.bool r0), []⟩)
abbrev Z26.l4.s : ST := ⟨[(2, .c (.o (.pbox 2 0))), (3, .c (.o (.pbox 3 0))), (5, .c (.o (.int .i64)))], [], [⟨2, 58, [.o (.int .i64), .o (.dat 155 (.int .u64))], false⟩, ⟨3, 58, [.o (.int .i64), .o (.dat 155 (.int .u64))], false⟩], [], []⟩
def Z26.l4.u (n : Nat) (v : Z26.l4.s.V) (K : X -> St -> Prop) : Prop := Z26.l4 n v.2.2.1.1 v.2.2.1.2.1 v.2.2.2.1.1 v.2.2.2.1.2.1 v.1.2.2.1 (K (.exit 0) ⟨[], [], [], [], []⟩) (fun y0 => K .ret ⟨[(4, .c (.bool y0))], [], [], [], []⟩)
theorem Z26.l4_ok : ∀ n v K, Z26.l4.u n v K -> loopM C X0 n 41 4 (Z26.l4.s.fill v) K :=
 loop_tell hX (fn := Try.f41) (c := bodyOf Try.f41) (a := loopOf Try.f41 4) (li := liOf (C.fi 41).loops 4) (by kernel_rfl) (by kernel_rfl) (of_decide_eq_true rfl) (by kernel_rfl) (by kernel_rfl) (T := Z26.l4.s) (u := Z26.l4.u) (fun _ _ h => h) (call := D34) (lp := fun n => noL) (D34_ok hX) (fun n => noL_ok) (fun n v K => by kernel_rfl)
theorem Z26_ok : ∀ n v K, Z26.u n v K -> callM C X0 n 41 (fillA Z26.a v) K :=
 call_tell hX (fn := Try.f41) (c := bodyOf Try.f41) (by kernel_rfl) (by kernel_rfl) (A := Z26.a) (u := Z26.u) (fun _ _ h => h) (call := D34) (lp := fun n => orL 4 Z26.l4.s (Z26.l4.u n) noL) (D34_ok hX) (fun n => (orL_ok (Z26.l4_ok hX n) noL_ok)) (fun n v K => by kernel_rfl)
def D35 (n : Nat) : CallF := orC 41 Z26.a (Z26.u n) (D34 n)
theorem D35_ok : ∀ n g a K, D35 n g a K -> callM C X0 n g a K := fun n => orC_ok (Z26_ok hX n) (D34_ok hX n)
abbrev Z53.a : List TS := [.a [.o (.int .i64), .o (.int .i64), .o (.int .i64), .o (.int .i64), .o (.int .i64), .o (.dat 155 (.int .u64)), .o (.dat 2 (.int .i64))]]
def Z53.u (n : Nat) (v : VA Z53.a) (K : RES -> Prop) : Prop := Z53.c n v.1.1 v.1.2.1 v.1.2.2.1 v.1.2.2.2.1 v.1.2.2.2.2.1 v.1.2.2.2.2.2.1 v.1.2.2.2.2.2.2.1 (fun r0 r1 r2 r3 r4 r5 r6 => K ⟨.agg [.int .i64 r0, .int .i64 r1, .int .i64 r2, .int .i64 r3, .int .i64 r4, .row ⟨155, .int .u64, r5, 99, none⟩, .row ⟨2, .int .i64, r6, 99, none⟩], []⟩)
theorem Z53_ok : ∀ n v K, Z53.u n v K -> callM C X0 n 225 (fillA Z53.a v) K :=
 call_tell hX (fn := Try.f225) (c := bodyOf Try.f225) (by kernel_rfl) (by kernel_rfl) (A := Z53.a) (u := Z53.u) (fun _ _ h => h) (call := D35) (lp := fun n => noL) (D35_ok hX) (fun n => noL_ok) (fun n v K => by kernel_rfl)
def D36 (n : Nat) : CallF := orC 225 Z53.a (Z53.u n) (D35 n)
theorem D36_ok : ∀ n g a K, D36 n g a K -> callM C X0 n g a K := fun n => orC_ok (Z53_ok hX n) (D35_ok hX n)
abbrev Z59.a : List TS := [.c (.o (.dat 174 Y9)), .c (.o (.int .i64))]
def Z59.u (n : Nat) (v : VA Z59.a) (K : RES -> Prop) : Prop := Z59.c n v.1 v.2.1 (fun r0 => K ⟨.c (.row ⟨174, .prod (.int .i64) Y12, r0, 99, none⟩), []⟩)
abbrev Z59.l8.s : ST := ⟨[(0, .c (.o (.dat 174 Y9))), (5, .c (.o (.own 480))), (6, .c (.o (.own 672))), (7, .c (.o (.int .i64))), (8, .c (.o (.int .i64)))], [⟨480, 4, .bool, 99⟩, ⟨672, 2, .int .i64, 99⟩], [], [], []⟩
def Z59.l8.u (n : Nat) (v : Z59.l8.s.V) (K : X -> St -> Prop) : Prop := Z59.l8 n v.1.1 v.1.2.2.2.1 v.2.1.2.1 v.1.2.2.2.2.1 v.2.1.1 (fun y0 y1 y2 y3 => K (.exit 2) ⟨[(0, .c (.dat 174 Y9 y0)), (5, .c (.own 480)), (6, .c (.own 672)), (7, .c (.int .i64 y1))], [(480, ⟨4, .bool, y2, 99, none⟩), (672, ⟨2, .int .i64, y3, 99, none⟩)], [], [], []⟩)
abbrev Z59.l5.s : ST := ⟨[(0, .c (.o (.dat 174 Y9))), (5, .c (.o (.own 480))), (6, .c (.o (.own 672))), (7, .c (.o (.int .i64)))], [⟨480, 4, .bool, 99⟩, ⟨672, 2, .int .i64, 99⟩], [], [], []⟩
def Z59.l5.u (n : Nat) (v : Z59.l5.s.V) (K : X -> St -> Prop) : Prop := Z59.l5 n v.1.1 v.1.2.2.2.1 v.2.1.1 v.2.1.2.1 (fun y0 y1 y2 => K (.exit 0) ⟨[(0, .c (.dat 174 Y9 y0)), (5, .c (.own 480)), (6, .c (.own 672))], [(480, ⟨4, .bool, y1, 99, none⟩), (672, ⟨2, .int .i64, y2, 99, none⟩)], [], [], []⟩)
abbrev Z59.l18.s : ST := ⟨[(0, .c (.o (.dat 174 Y9))), (5, .c (.o (.own 480))), (6, .c (.o (.own 672))), (9, .c (.o (.own 288))), (10, .c (.o (.int .i64))), (11, .c (.o (.pbox 11 0))), (12, .c (.o (.int .i64)))], [⟨288, 174, .prod (.int .i64) Y12, 99⟩, ⟨480, 4, .bool, 99⟩, ⟨672, 2, .int .i64, 99⟩, ⟨2277, 155, .int .u64, 99⟩, ⟨2278, 2, .int .i64, 99⟩], [⟨11, 174, [.o (.int .i64), .o (.int .i64), .o (.int .i64), .o (.int .i64), .o (.int .i64), .o (.own 2277), .o (.own 2278)], false⟩], [], []⟩
def Z59.l18.u (n : Nat) (v : Z59.l18.s.V) (K : X -> St -> Prop) : Prop := Z59.l18 n v.1.1 v.1.2.2.2.2.1 v.2.1.1 v.2.1.2.1 v.2.1.2.2.1 v.2.1.2.2.2.1 v.2.2.1.1 v.2.2.1.2.1 v.2.2.1.2.2.1 v.2.2.1.2.2.2.1 v.2.2.1.2.2.2.2.1 v.1.2.2.2.2.2.2.1 v.2.1.2.2.2.2.1 (fun y0 y1 y2 y3 y4 y5 y6 y7 y8 y9 y10 y11 => K (.exit 6) ⟨[(0, .c (.dat 174 Y9 y0)), (5, .c (.own 480)), (6, .c (.own 672)), (9, .c (.own 288)), (10, .c (.int .i64 y1)), (11, .c (.pbox 11 0))], [(288, ⟨174, .prod (.int .i64) Y12, y2, 99, none⟩), (480, ⟨4, .bool, y3, 99, none⟩), (672, ⟨2, .int .i64, y4, 99, none⟩), (2277, ⟨155, .int .u64, y5, 99, none⟩), (2278, ⟨2, .int .i64, y6, 99, none⟩)], [(11, ⟨174, [.int .i64 y7, .int .i64 y8, .int .i64 y9, .int .i64 y10, .int .i64 y11, .own 2277, .own 2278], false⟩)], [], []⟩)
abbrev Z59.l13.s : ST := ⟨[(0, .c (.o (.dat 174 Y9))), (5, .c (.o (.own 480))), (6, .c (.o (.own 672))), (9, .c (.o (.own 288))), (10, .c (.o (.int .i64)))], [⟨288, 174, .prod (.int .i64) Y12, 99⟩, ⟨480, 4, .bool, 99⟩, ⟨672, 2, .int .i64, 99⟩], [], [], []⟩
def Z59.l13.u (n : Nat) (v : Z59.l13.s.V) (K : X -> St -> Prop) : Prop := Z59.l13 n v.1.1 v.1.2.2.2.2.1 v.2.1.1 v.2.1.2.1 v.2.1.2.2.1 (fun y0 => K (.exit 4) ⟨[(9, .c (.own 288))], [(288, ⟨174, .prod (.int .i64) Y12, y0, 99, none⟩)], [], [], []⟩)
theorem Z59.l8_ok : ∀ n v K, Z59.l8.u n v K -> loopM C X0 n 218 8 (Z59.l8.s.fill v) K :=
 loop_tell hX (fn := Try.f218) (c := bodyOf Try.f218) (a := loopOf Try.f218 8) (li := liOf (C.fi 218).loops 8) (by kernel_rfl) (by kernel_rfl) (of_decide_eq_true rfl) (by kernel_rfl) (by kernel_rfl) (T := Z59.l8.s) (u := Z59.l8.u) (fun _ _ h => h) (call := D36) (lp := fun n => noL) (D36_ok hX) (fun n => noL_ok) (fun n v K => by kernel_rfl)
theorem Z59.l5_ok : ∀ n v K, Z59.l5.u n v K -> loopM C X0 n 218 5 (Z59.l5.s.fill v) K :=
 loop_tell hX (fn := Try.f218) (c := bodyOf Try.f218) (a := loopOf Try.f218 5) (li := liOf (C.fi 218).loops 5) (by kernel_rfl) (by kernel_rfl) (of_decide_eq_true rfl) (by kernel_rfl) (by kernel_rfl) (T := Z59.l5.s) (u := Z59.l5.u) (fun _ _ h => h) (call := D36) (lp := fun n => orL 8 Z59.l8.s (Z59.l8.u n) noL) (D36_ok hX) (fun n => (orL_ok (Z59.l8_ok hX n) noL_ok)) (fun n v K => by kernel_rfl)
theorem Z59.l18_ok : ∀ n v K, Z59.l18.u n v K -> loopM C X0 n 218 18 (Z59.l18.s.fill v) K :=
 loop_tell hX (fn := Try.f218) (c := bodyOf Try.f218) (a := loopOf Try.f218 18) (li := liOf (C.fi 218).loops 18) (by kernel_rfl) (by kernel_rfl) (of_decide_eq_true rfl) (by kernel_rfl) (by kernel_rfl) (T := Z59.l18.s) (u := Z59.l18.u) (fun _ _ h => h) (call := D36) (lp := fun n => noL) (D36_ok hX) (fun n => noL_ok) (fun n v K => by kernel_rfl)
theorem Z59.l13_ok : ∀ n v K, Z59.l13.u n v K -> loopM C X0 n 218 13 (Z59.l13.s.fill v) K :=
 loop_tell hX (fn := Try.f218) (c := bodyOf Try.f218) (a := loopOf Try.f218 13) (li := liOf (C.fi 218).loops 13) (by kernel_rfl) (by kernel_rfl) (of_decide_eq_true rfl) (by kernel_rfl) (by kernel_rfl) (T := Z59.l13.s) (u := Z59.l13.u) (fun _ _ h => h) (call := D36) (lp := fun n => orL 18 Z59.l18.s (Z59.l18.u n) noL) (D36_ok hX) (fun n => (orL_ok (Z59.l18_ok hX n) noL_ok)) (fun n v K => by kernel_rfl)
theorem Z59_ok : ∀ n v K, Z59.u n v K -> callM C X0 n 218 (fillA Z59.a v) K :=
 call_tell hX (fn := Try.f218) (c := bodyOf Try.f218) (by kernel_rfl) (by kernel_rfl) (A := Z59.a) (u := Z59.u) (fun _ _ h => h) (call := D36) (lp := fun n => orL 5 Z59.l5.s (Z59.l5.u n) (orL 13 Z59.l13.s (Z59.l13.u n) noL)) (D36_ok hX) (fun n => (orL_ok (Z59.l5_ok hX n) (orL_ok (Z59.l13_ok hX n) noL_ok))) (fun n v K => by kernel_rfl)
def D37 (n : Nat) : CallF := orC 218 Z59.a (Z59.u n) (D36 n)
theorem D37_ok : ∀ n g a K, D37 n g a K -> callM C X0 n g a K := fun n => orC_ok (Z59_ok hX n) (D36_ok hX n)
end
end Go.Vsi
end

section
set_option linter.unusedVariables false
namespace Go.Vsi
open Go.Proofs
section
variable {X0 : CallF} (hX : CallF.Mono X0)
include hX
abbrev Z54.a : List TS := [.c (.o (.row 174 Y9 99)), .c (.o (.int .i64)), .c (.o (.int .i64)), .c (.o (.int .i64))]
def Z54.u (n : Nat) (v : VA Z54.a) (K : RES -> Prop) : Prop := Z54.c n v.1 v.2.1 v.2.2.1 v.2.2.2.1 (fun r0 => K ⟨.c (.row ⟨174, .prod (.int .i64) Y12, r0, 99, none⟩), []⟩)
theorem Z54_ok : ∀ n v K, Z54.u n v K -> callM C X0 n 219 (fillA Z54.a v) K :=
 call_tell hX (fn := Try.f219) (c := bodyOf Try.f219) (by kernel_rfl) (by kernel_rfl) (A := Z54.a) (u := Z54.u) (fun _ _ h => h) (call := D37) (lp := fun n => noL) (D37_ok hX) (fun n => noL_ok) (fun n v K => by kernel_rfl)
def D38 (n : Nat) : CallF := orC 219 Z54.a (Z54.u n) (D37 n)
theorem D38_ok : ∀ n g a K, D38 n g a K -> callM C X0 n g a K := fun n => orC_ok (Z54_ok hX n) (D37_ok hX n)
abbrev Z56.a : List TS := [.c (.boxr 210 [.dat 5 (.int .u8), .int .i64]), .c (.o (.dat 167 Y21)), .c (.o (.int .i64))]
def Z56.u (n : Nat) (v : VA Z56.a) (K : RES -> Prop) : Prop := Z56.c n v.1.1 v.1.2.1 v.2.1 v.2.2.1 (fun r0 r1 r2 => K ⟨.agg [.row ⟨174, .prod (.int .i64) Y12, r0, 99, none⟩], [[.boxr 210 [.dat 5 (.int .u8) r1, .int .i64 r2]]]⟩)
abbrev Z56.q34.s : ST := ⟨[(0, .c (.o (.pbox 0 0))), (1, .c (.o (.dat 167 Y21))), (2, .c (.o (.int .i64))), (6, .c (.o (.pbox 6 0))), (7, .c (.o (.own 224))), (8, .c (.o (.int .i64))), (9, .c (.o (.int .i64))), (10, .c (.o (.int .i64))), (13, .c (.o (.pbox 13 0))), (65, .c (.o (.int .i64))), (117, .c (.o .bool))], [⟨224, 174, .prod (.int .i64) Y12, 99⟩, ⟨1984, 2, .int .i64, 99⟩, ⟨2021, 155, .int .u64, 99⟩, ⟨1000192, 174, .prod (.int .i64) Y12, 99⟩], [⟨0, 210, [.o (.dat 5 (.int .u8)), .o (.int .i64)], false⟩, ⟨6, 82, [.o (.own 1000192)], false⟩, ⟨13, 174, [.o (.int .i64), .o (.int .i64), .o (.int .i64), .o (.int .i64), .o (.int .i64), .o (.own 2021), .o (.own 1984)], false⟩], [], [0]⟩
def Z56.q34.u (n : Nat) (v : Z56.q34.s.V) (K : X -> St -> Prop) : Prop := Z56.q34 n v.1.2.1 v.1.2.2.1 v.1.2.2.2.2.2.1 v.1.2.2.2.2.2.2.1 v.1.2.2.2.2.2.2.2.1 v.1.2.2.2.2.2.2.2.2.2.1 v.1.2.2.2.2.2.2.2.2.2.2.1 v.2.1.1 v.2.1.2.1 v.2.1.2.2.1 v.2.1.2.2.2.1 v.2.2.1.1 v.2.2.1.2.1 v.2.2.2.2.1.1 v.2.2.2.2.1.2.1 v.2.2.2.2.1.2.2.1 v.2.2.2.2.1.2.2.2.1 v.2.2.2.2.1.2.2.2.2.1 (fun y0 y1 y2 y3 y4 y5 y6 y7 y8 y9 y10 y11 y12 y13 y14 y15 => K .normal ⟨[(0, .c (.pbox 0 0)), (1, .c (.dat 167 Y21 y0)), (2, .c (.int .i64 y1)), (6, .c (.pbox 6 0)), (7, .c (.own 224)), (8, .c (.int .i64 y2)), (9, .c (.int .i64 y3)), (10, .c (.int .i64 y4)), (13, .c (.pbox 13 0))], [(224, ⟨174, .prod (.int .i64) Y12, y5, 99, none⟩), (1984, ⟨2, .int .i64, y6, 99, none⟩), (2021, ⟨155, .int .u64, y7, 99, none⟩), (1000192, ⟨174, .prod (.int .i64) Y12, y8, 99, none⟩)], [(0, ⟨210, [.dat 5 (.int .u8) y9, .int .i64 y10], false⟩), (6, ⟨82, [.own 1000192], false⟩), (13, ⟨174, [.int .i64 y11, .int .i64 y12, .int .i64 y13, .int .i64 y14, .int .i64 y15, .own 2021, .own 1984], false⟩)], [], [0]⟩)
abbrev Z56.l5.s : ST := ⟨[(0, .c (.o (.pbox 0 0))), (1, .c (.o (.dat 167 Y21))), (2, .c (.o (.int .i64))), (6, .c (.o (.pbox 6 0))), (7, .c (.o (.own 224))), (8, .c (.o (.int .i64))), (9, .c (.o (.int .i64))), (10, .c (.o (.int .i64)))], [⟨224, 174, .prod (.int .i64) Y12, 99⟩, ⟨1000192, 174, .prod (.int .i64) Y12, 99⟩], [⟨0, 210, [.o (.dat 5 (.int .u8)), .o (.int .i64)], false⟩, ⟨6, 82, [.o (.own 1000192)], false⟩], [], [0]⟩
def Z56.l5.u (n : Nat) (v : Z56.l5.s.V) (K : X -> St -> Prop) : Prop := Z56.l5 n v.1.2.1 v.1.2.2.1 v.1.2.2.2.2.2.1 v.1.2.2.2.2.2.2.1 v.1.2.2.2.2.2.2.2.1 v.2.1.1 v.2.1.2.1 v.2.2.1.1 v.2.2.1.2.1 (fun y0 y1 y2 y3 y4 y5 y6 => K (.exit 0) ⟨[(1, .c (.dat 167 Y21 y0)), (2, .c (.int .i64 y1)), (6, .c (.pbox 6 0)), (7, .c (.own 224)), (8, .c (.int .i64 y2))], [(224, ⟨174, .prod (.int .i64) Y12, y3, 99, none⟩), (1000192, ⟨174, .prod (.int .i64) Y12, y4, 99, none⟩)], [(0, ⟨210, [.dat 5 (.int .u8) y5, .int .i64 y6], false⟩), (6, ⟨82, [.own 1000192], false⟩)], [], [0]⟩)
theorem Z56.q34_ok : ∀ n v K, Z56.q34.u n v K -> loopM C X0 n 195 1000034 (Z56.q34.s.fill v) K :=
 cut_tell hX (fn := Try.f195) (c := bodyOf Try.f195) (a := cutOf Try.f195 34) (li := liOf (C.fi 195).loops 1000034) (by kernel_rfl) (by kernel_rfl) (of_decide_eq_true rfl) (by kernel_rfl) (by kernel_rfl) (T := Z56.q34.s) (u := Z56.q34.u) (fun _ _ h => h) (call := D38) (lp := fun n => noL) (D38_ok hX) (fun n => noL_ok) (fun n v K => by kernel_rfl)
theorem Z56.l5_ok : ∀ n v K, Z56.l5.u n v K -> loopM C X0 n 195 5 (Z56.l5.s.fill v) K :=
 loop_tell hX (fn := Try.f195) (c := bodyOf Try.f195) (a := loopOf Try.f195 5) (li := liOf (C.fi 195).loops 5) (by kernel_rfl) (by kernel_rfl) (of_decide_eq_true rfl) (by kernel_rfl) (by kernel_rfl) (T := Z56.l5.s) (u := Z56.l5.u) (fun _ _ h => h) (call := D38) (lp := fun n => orL 1000034 Z56.q34.s (Z56.q34.u n) noL) (D38_ok hX) (fun n => (orL_ok (Z56.q34_ok hX n) noL_ok)) (fun n v K => by kernel_rfl)
theorem Z56_ok : ∀ n v K, Z56.u n v K -> callM C X0 n 195 (fillA Z56.a v) K :=
 call_tell hX (fn := Try.f195) (c := bodyOf Try.f195) (by kernel_rfl) (by kernel_rfl) (A := Z56.a) (u := Z56.u) (fun _ _ h => h) (call := D38) (lp := fun n => orL 5 Z56.l5.s (Z56.l5.u n) noL) (D38_ok hX) (fun n => (orL_ok (Z56.l5_ok hX n) noL_ok)) (fun n v K => by kernel_rfl)
def D39 (n : Nat) : CallF := orC 195 Z56.a (Z56.u n) (D38 n)
theorem D39_ok : ∀ n g a K, D39 n g a K -> callM C X0 n g a K := fun n => orC_ok (Z56_ok hX n) (D38_ok hX n)
abbrev Z64.a : List TS := [.c (.o (.dat 167 Y21)), .a [.o (.int .i64), .o (.int .i64), .o (.int .i64), .o (.int .i64), .o (.int .i64), .o (.dat 155 (.int .u64)), .o (.dat 2 (.int .i64))], .c (.o (.dat 185 (.sl 240 Y20)))]
def Z64.u (n : Nat) (v : VA Z64.a) (K : RES -> Prop) : Prop := Z64.c n v.1 v.2.1.1 v.2.1.2.1 v.2.1.2.2.1 v.2.1.2.2.2.1 v.2.1.2.2.2.2.1 v.2.1.2.2.2.2.2.1 v.2.1.2.2.2.2.2.2.1 v.2.2.1 (fun r0 => K ⟨.c (.row ⟨240, .prod (.int .i64) (.int .i64), r0, 99, none⟩), []⟩)
abbrev Z64.l5.s : ST := ⟨[(0, .c (.o (.dat 167 Y21))), (4, .c (.o (.pbox 4 0))), (7, .c (.o (.own 224))), (8, .c (.o (.int .i64)))], [⟨224, 240, .prod (.int .i64) (.int .i64), 99⟩], [⟨4, 174, [.o (.int .i64), .o (.int .i64), .o (.int .i64), .o (.int .i64), .o (.int .i64), .o (.dat 155 (.int .u64)), .o (.dat 2 (.int .i64))], false⟩], [], []⟩
def Z64.l5.u (n : Nat) (v : Z64.l5.s.V) (K : X -> St -> Prop) : Prop := Z64.l5 n v.1.1 v.2.2.1.1 v.2.2.1.2.1 v.2.2.1.2.2.1 v.2.2.1.2.2.2.1 v.2.2.1.2.2.2.2.1 v.2.2.1.2.2.2.2.2.1 v.2.2.1.2.2.2.2.2.2.1 v.1.2.2.2.1 v.2.1.1 (fun y0 => K (.exit 1) ⟨[(7, .c (.own 224))], [(224, ⟨240, .prod (.int .i64) (.int .i64), y0, 99, none⟩)], [], [], []⟩)
abbrev Z64.l10.s : ST := ⟨[(4, .c (.o (.pbox 4 0))), (7, .c (.o (.own 224))), (9, .c (.o (.int .i64)))], [⟨224, 240, .prod (.int .i64) (.int .i64), 99⟩], [⟨4, 174, [.o (.int .i64), .o (.int .i64), .o (.int .i64), .o (.int .i64), .o (.int .i64), .o (.dat 155 (.int .u64)), .o (.dat 2 (.int .i64))], false⟩], [], []⟩
def Z64.l10.u (n : Nat) (v : Z64.l10.s.V) (K : X -> St -> Prop) : Prop := Z64.l10 n v.2.2.1.1 v.2.2.1.2.1 v.2.2.1.2.2.1 v.2.2.1.2.2.2.1 v.2.2.1.2.2.2.2.1 v.2.2.1.2.2.2.2.2.1 v.2.2.1.2.2.2.2.2.2.1 v.1.2.2.1 v.2.1.1 (fun y0 => K (.exit 3) ⟨[(7, .c (.own 224))], [(224, ⟨240, .prod (.int .i64) (.int .i64), y0, 99, none⟩)], [], [], []⟩)
abbrev Z64.l15.s : ST := ⟨[(2, .c (.o (.dat 185 (.sl 240 Y20)))), (7, .c (.o (.own 224))), (10, .c (.o (.int .i64)))], [⟨224, 240, .prod (.int .i64) (.int .i64), 99⟩], [], [], []⟩
def Z64.l15.u (n : Nat) (v : Z64.l15.s.V) (K : X -> St -> Prop) : Prop := Z64.l15 n v.1.1 v.1.2.2.1 v.2.1.1 (fun y0 => K (.exit 5) ⟨[(7, .c (.own 224))], [(224, ⟨240, .prod (.int .i64) (.int .i64), y0, 99, none⟩)], [], [], []⟩)
abbrev Z64.l27.s : ST := ⟨[(4, .c (.o (.pbox 4 0))), (7, .c (.o (.own 224))), (11, .c (.o (.pbox 11 0))), (12, .c (.o (.int .i64)))], [⟨224, 240, .prod (.int .i64) (.int .i64), 99⟩], [⟨4, 174, [.o (.int .i64), .o (.int .i64), .o (.int .i64), .o (.int .i64), .o (.int .i64), .o (.dat 155 (.int .u64)), .o (.dat 2 (.int .i64))], false⟩, ⟨11, 240, [.o (.int .i64), .o (.int .i64)], false⟩], [], []⟩
def Z64.l27.u (n : Nat) (v : Z64.l27.s.V) (K : X -> St -> Prop) : Prop := Z64.l27 n v.2.2.1.1 v.2.2.1.2.1 v.2.2.1.2.2.1 v.2.2.1.2.2.2.1 v.2.2.1.2.2.2.2.1 v.2.2.1.2.2.2.2.2.1 v.2.2.1.2.2.2.2.2.2.1 v.2.2.2.1.1 v.2.2.2.1.2.1 v.1.2.2.2.1 v.2.1.1 (fun y0 => K (.exit 7) ⟨[(7, .c (.own 224))], [(224, ⟨240, .prod (.int .i64) (.int .i64), y0, 99, none⟩)], [], [], []⟩)
abbrev Z64.l40.s : ST := ⟨[(2, .c (.o (.dat 185 (.sl 240 Y20)))), (4, .c (.o (.pbox 4 0))), (7, .c (.o (.own 224))), (15, .c (.o (.int .i64)))], [⟨224, 240, .prod (.int .i64) (.int .i64), 99⟩], [⟨4, 174, [.o (.int .i64), .o (.int .i64), .o (.int .i64), .o (.int .i64), .o (.int .i64), .o (.dat 155 (.int .u64)), .o (.dat 2 (.int .i64))], false⟩], [], []⟩
def Z64.l40.u (n : Nat) (v : Z64.l40.s.V) (K : X -> St -> Prop) : Prop := Z64.l40 n v.1.1 v.2.2.1.1 v.2.2.1.2.1 v.2.2.1.2.2.1 v.2.2.1.2.2.2.1 v.2.2.1.2.2.2.2.1 v.2.2.1.2.2.2.2.2.1 v.2.2.1.2.2.2.2.2.2.1 v.1.2.2.2.1 v.2.1.1 (fun y0 => K (.exit 9) ⟨[(7, .c (.own 224))], [(224, ⟨240, .prod (.int .i64) (.int .i64), y0, 99, none⟩)], [], [], []⟩)
theorem Z64.l5_ok : ∀ n v K, Z64.l5.u n v K -> loopM C X0 n 217 5 (Z64.l5.s.fill v) K :=
 loop_tell hX (fn := Try.f217) (c := bodyOf Try.f217) (a := loopOf Try.f217 5) (li := liOf (C.fi 217).loops 5) (by kernel_rfl) (by kernel_rfl) (of_decide_eq_true rfl) (by kernel_rfl) (by kernel_rfl) (T := Z64.l5.s) (u := Z64.l5.u) (fun _ _ h => h) (call := D39) (lp := fun n => noL) (D39_ok hX) (fun n => noL_ok) (fun n v K => by kernel_rfl)
theorem Z64.l10_ok : ∀ n v K, Z64.l10.u n v K -> loopM C X0 n 217 10 (Z64.l10.s.fill v) K :=
 loop_tell hX (fn := Try.f217) (c := bodyOf Try.f217) (a := loopOf Try.f217 10) (li := liOf (C.fi 217).loops 10) (by kernel_rfl) (by kernel_rfl) (of_decide_eq_true rfl) (by kernel_rfl) (by kernel_rfl) (T := Z64.l10.s) (u := Z64.l10.u) (fun _ _ h => h) (call := D39) (lp := fun n => noL) (D39_ok hX) (fun n => noL_ok) (fun n v K => by kernel_rfl)
theorem Z64.l15_ok : ∀ n v K, Z64.l15.u n v K -> loopM C X0 n 217 15 (Z64.l15.s.fill v) K :=
 loop_tell hX (fn := Try.f217) (c := bodyOf Try.f217) (a := loopOf Try.f217 15) (li := liOf (C.fi 217).loops 15) (by kernel_rfl) (by kernel_rfl) (of_decide_eq_true rfl) (by kernel_rfl) (by kernel_rfl) (T := Z64.l15.s) (u := Z64.l15.u) (fun _ _ h => h) (call := D39) (lp := fun n => noL) (D39_ok hX) (fun n => noL_ok) (fun n v K => by kernel_rfl)
theorem Z64.l27_ok : ∀ n v K, Z64.l27.u n v K -> loopM C X0 n 217 27 (Z64.l27.s.fill v) K :=
 loop_tell hX (fn := Try.f217) (c := bodyOf Try.f217) (a := loopOf Try.f217 27) (li := liOf (C.fi 217).loops 27) (by kernel_rfl) (by kernel_rfl) (of_decide_eq_true rfl) (by kernel_rfl) (by kernel_rfl) (T := Z64.l27.s) (u := Z64.l27.u) (fun _ _ h => h) (call := D39) (lp := fun n => noL) (D39_ok hX) (fun n => noL_ok) (fun n v K => by kernel_rfl)
theorem Z64.l40_ok : ∀ n v K, Z64.l40.u n v K -> loopM C X0 n 217 40 (Z64.l40.s.fill v) K :=
 loop_tell hX (fn := Try.f217) (c := bodyOf Try.f217) (a := loopOf Try.f217 40) (li := liOf (C.fi 217).loops 40) (by kernel_rfl) (by kernel_rfl) (of_decide_eq_true rfl) (by kernel_rfl) (by kernel_rfl) (T := Z64.l40.s) (u := Z64.l40.u) (fun _ _ h => h) (call := D39) (lp := fun n => noL) (D39_ok hX) (fun n => noL_ok) (fun n v K => by kernel_rfl)
theorem Z64_ok : ∀ n v K, Z64.u n v K -> callM C X0 n 217 (fillA Z64.a v) K :=
 call_tell hX (fn := Try.f217) (c := bodyOf Try.f217) (by kernel_rfl) (by kernel_rfl) (A := Z64.a) (u := Z64.u) (fun _ _ h => h) (call := D39) (lp := fun n => orL 5 Z64.l5.s (Z64.l5.u n) (orL 10 Z64.l10.s (Z64.l10.u n) (orL 15 Z64.l15.s (Z64.l15.u n) (orL 27 Z64.l27.s (Z64.l27.u n) (orL 40 Z64.l40.s (Z64.l40.u n) noL))))) (D39_ok hX) (fun n => (orL_ok (Z64.l5_ok hX n) (orL_ok (Z64.l10_ok hX n) (orL_ok (Z64.l15_ok hX n) (orL_ok (Z64.l27_ok hX n) (orL_ok (Z64.l40_ok hX n) noL_ok)))))) (fun n v K => by kernel_rfl)
def D40 (n : Nat) : CallF := orC 217 Z64.a (Z64.u n) (D39 n)
theorem D40_ok : ∀ n g a K, D40 n g a K -> callM C X0 n g a K := fun n => orC_ok (Z64_ok hX n) (D39_ok hX n)
abbrev Z63.a : List TS := [.c (.o (.dat 240 Y20))]
def Z63.u (n : Nat) (v : VA Z63.a) (K : RES -> Prop) : Prop := Z63.c n v.1 (fun r0 r1 => K ⟨.tup [.c (.row ⟨102, .prod (.int .i64) Y16, r0, 99, none⟩), .c (.bool r1)], []⟩)
abbrev Z63.l7.s : ST := ⟨[(0, .c (.o (.dat 240 Y20))), (4, .c (.o (.own 128))), (6, .c (.o (.int .i64))), (7, .c (.o (.own 224)))], [⟨128, 102, .prod (.int .i64) Y16, 99⟩, ⟨224, 5, .int .u8, 99⟩], [], [], []⟩
def Z63.l7.u (n : Nat) (v : Z63.l7.s.V) (K : X -> St -> Prop) : Prop := Z63.l7 n v.1.1 v.2.1.1 v.1.2.2.1 v.2.1.2.1 (fun y0 y1 y2 y3 => K (.exit 2) ⟨[(0, .c (.dat 240 Y20 y0)), (4, .c (.own 128)), (6, .c (.int .i64 y1)), (7, .c (.own 224))], [(128, ⟨102, .prod (.int .i64) Y16, y2, 99, none⟩), (224, ⟨5, .int .u8, y3, 99, none⟩)], [], [], []⟩)
abbrev Z63.l12.s : ST := ⟨[(0, .c (.o (.dat 240 Y20))), (4, .c (.o (.own 128))), (5, .c (.o (.int .i64))), (6, .c (.o (.int .i64)))], [⟨128, 102, .prod (.int .i64) Y16, 99⟩], [], [], []⟩
def Z63.l12.u (n : Nat) (v : Z63.l12.s.V) (K : X -> St -> Prop) : Prop := Z63.l12 n v.1.1 v.1.2.2.1 v.2.1.1 v.1.2.2.2.1 (fun y0 y1 y2 y3 => K (.exit 4) ⟨[(0, .c (.dat 240 Y20 y0)), (4, .c (.own 128)), (5, .c (.int .i64 y1)), (6, .c (.int .i64 y2))], [(128, ⟨102, .prod (.int .i64) Y16, y3, 99, none⟩)], [], [], []⟩)
abbrev Z63.l3.s : ST := ⟨[(0, .c (.o (.dat 240 Y20))), (4, .c (.o (.own 128))), (5, .c (.o (.int .i64)))], [⟨128, 102, .prod (.int .i64) Y16, 99⟩], [], [], []⟩
def Z63.l3.u (n : Nat) (v : Z63.l3.s.V) (K : X -> St -> Prop) : Prop := Z63.l3 n v.1.1 v.1.2.2.1 v.2.1.1 (fun y0 => K (.exit 0) ⟨[(4, .c (.own 128))], [(128, ⟨102, .prod (.int .i64) Y16, y0, 99, none⟩)], [], [], []⟩)
theorem Z63.l7_ok : ∀ n v K, Z63.l7.u n v K -> loopM C X0 n 142 7 (Z63.l7.s.fill v) K :=
 loop_tell hX (fn := Try.f142) (c := bodyOf Try.f142) (a := loopOf Try.f142 7) (li := liOf (C.fi 142).loops 7) (by kernel_rfl) (by kernel_rfl) (of_decide_eq_true rfl) (by kernel_rfl) (by kernel_rfl) (T := Z63.l7.s) (u := Z63.l7.u) (fun _ _ h => h) (call := D40) (lp := fun n => noL) (D40_ok hX) (fun n => noL_ok) (fun n v K => by kernel_rfl)
theorem Z63.l12_ok : ∀ n v K, Z63.l12.u n v K -> loopM C X0 n 142 12 (Z63.l12.s.fill v) K :=
 loop_tell hX (fn := Try.f142) (c := bodyOf Try.f142) (a := loopOf Try.f142 12) (li := liOf (C.fi 142).loops 12) (by kernel_rfl) (by kernel_rfl) (of_decide_eq_true rfl) (by kernel_rfl) (by kernel_rfl) (T := Z63.l12.s) (u := Z63.l12.u) (fun _ _ h => h) (call := D40) (lp := fun n => noL) (D40_ok hX) (fun n => noL_ok) (fun n v K => by kernel_rfl)
theorem Z63.l3_ok : ∀ n v K, Z63.l3.u n v K -> loopM C X0 n 142 3 (Z63.l3.s.fill v) K :=
 loop_tell hX (fn := Try.f142) (c := bodyOf Try.f142) (a := loopOf Try.f142 3) (li := liOf (C.fi 142).loops 3) (by kernel_rfl) (by kernel_rfl) (of_decide_eq_true rfl) (by kernel_rfl) (by kernel_rfl) (T := Z63.l3.s) (u := Z63.l3.u) (fun _ _ h => h) (call := D40) (lp := fun n => orL 7 Z63.l7.s (Z63.l7.u n) (orL 12 Z63.l12.s (Z63.l12.u n) noL)) (D40_ok hX) (fun n => (orL_ok (Z63.l7_ok hX n) (orL_ok (Z63.l12_ok hX n) noL_ok))) (fun n v K => by kernel_rfl)
theorem Z63_ok : ∀ n v K, Z63.u n v K -> callM C X0 n 142 (fillA Z63.a v) K :=
 call_tell hX (fn := Try.f142) (c := bodyOf Try.f142) (by kernel_rfl) (by kernel_rfl) (A := Z63.a) (u := Z63.u) (fun _ _ h => h) (call := D40) (lp := fun n => orL 3 Z63.l3.s (Z63.l3.u n) noL) (D40_ok hX) (fun n => (orL_ok (Z63.l3_ok hX n) noL_ok)) (fun n v K => by kernel_rfl)
def D41 (n : Nat) : CallF := orC 142 Z63.a (Z63.u n) (D40 n)
theorem D41_ok : ∀ n g a K, D41 n g a K -> callM C X0 n g a K := fun n => orC_ok (Z63_ok hX n) (D40_ok hX n)
abbrev Z35.a : List TS := [.c (.o (.dat 167 Y21)), .a [.o (.dat 174 Y9)]]
def Z35.u (n : Nat) (v : VA Z35.a) (K : RES -> Prop) : Prop := Z35.c n v.1 v.2.1.1 (fun r0 r1 => K ⟨.tup [.c (.row ⟨102, .prod (.int .i64) Y16, r0, 99, none⟩), .c (.bool r1)], []⟩)
abbrev Z35.l10.s : ST := ⟨[(0, .c (.o (.dat 167 Y21))), (3, .c (.o (.pbox 3 0))), (6, .c (.o (.own 192))), (8, .c (.o (.int .i64))), (9, .c (.o (.own 288))), (10, .c (.o (.int .i64)))], [⟨192, 185, .sl 240 Y20, 1⟩, ⟨288, 185, .sl 240 Y20, 1⟩], [⟨3, 82, [.o (.dat 174 Y9)], false⟩], [], []⟩
def Z35.l10.u (n : Nat) (v : Z35.l10.s.V) (K : X -> St -> Prop) : Prop := Z35.l10 n v.1.1 v.1.2.2.2.1 v.2.1.1 v.2.2.1.1 v.1.2.2.2.2.2.1 v.2.1.2.1 (fun y0 y1 y2 y3 y4 => K (.exit 2) ⟨[(0, .c (.dat 167 Y21 y0)), (3, .c (.pbox 3 0)), (6, .c (.own 192)), (8, .c (.int .i64 y1)), (9, .c (.own 288))], [(192, ⟨185, .sl 240 Y20, y2, 1, none⟩), (288, ⟨185, .sl 240 Y20, y3, 1, none⟩)], [(3, ⟨82, [.dat 174 Y9 y4], false⟩)], [], []⟩)
abbrev Z35.l6.s : ST := ⟨[(0, .c (.o (.dat 167 Y21))), (3, .c (.o (.pbox 3 0))), (6, .c (.o (.own 192))), (7, .c (.o (.own 224))), (8, .c (.o (.int .i64)))], [⟨192, 185, .sl 240 Y20, 1⟩, ⟨224, 102, .prod (.int .i64) Y16, 99⟩], [⟨3, 82, [.o (.dat 174 Y9)], false⟩], [], []⟩
def Z35.l6.u (n : Nat) (v : Z35.l6.s.V) (K : X -> St -> Prop) : Prop := Z35.l6 n v.1.1 v.1.2.2.2.2.1 v.2.1.1 v.2.1.2.1 v.2.2.1.1 (fun y0 => K (.exit 0) ⟨[(7, .c (.own 224))], [(224, ⟨102, .prod (.int .i64) Y16, y0, 99, none⟩)], [], [], []⟩) (fun y0 y1 => K .ret ⟨[(4, .c (.own 2240)), (5, .c (.bool y0))], [(2240, ⟨102, .prod (.int .i64) Y16, y1, 99, none⟩)], [], [], []⟩)
theorem Z35.l10_ok : ∀ n v K, Z35.l10.u n v K -> loopM C X0 n 194 10 (Z35.l10.s.fill v) K :=
 loop_tell hX (fn := Try.f194) (c := bodyOf Try.f194) (a := loopOf Try.f194 10) (li := liOf (C.fi 194).loops 10) (by kernel_rfl) (by kernel_rfl) (of_decide_eq_true rfl) (by kernel_rfl) (by kernel_rfl) (T := Z35.l10.s) (u := Z35.l10.u) (fun _ _ h => h) (call := D41) (lp := fun n => noL) (D41_ok hX) (fun n => noL_ok) (fun n v K => by kernel_rfl)
theorem Z35.l6_ok : ∀ n v K, Z35.l6.u n v K -> loopM C X0 n 194 6 (Z35.l6.s.fill v) K :=
 loop_tell hX (fn := Try.f194) (c := bodyOf Try.f194) (a := loopOf Try.f194 6) (li := liOf (C.fi 194).loops 6) (by kernel_rfl) (by kernel_rfl) (of_decide_eq_true rfl) (by kernel_rfl) (by kernel_rfl) (T := Z35.l6.s) (u := Z35.l6.u) (fun _ _ h => h) (call := D41) (lp := fun n => orL 10 Z35.l10.s (Z35.l10.u n) noL) (D41_ok hX) (fun n => (orL_ok (Z35.l10_ok hX n) noL_ok)) (fun n v K => by kernel_rfl)
theorem Z35_ok : ∀ n v K, Z35.u n v K -> callM C X0 n 194 (fillA Z35.a v) K :=
 call_tell hX (fn := Try.f194) (c := bodyOf Try.f194) (by kernel_rfl) (by kernel_rfl) (A := Z35.a) (u := Z35.u) (fun _ _ h => h) (call := D41) (lp := fun n => orL 6 Z35.l6.s (Z35.l6.u n) noL) (D41_ok hX) (fun n => (orL_ok (Z35.l6_ok hX n) noL_ok)) (fun n v K => by kernel_rfl)
def D42 (n : Nat) : CallF := orC 194 Z35.a (Z35.u n) (D41 n)
theorem D42_ok : ∀ n g a K, D42 n g a K -> callM C X0 n g a K := fun n => orC_ok (Z35_ok hX n) (D41_ok hX n)
abbrev Z46.a : List TS := [.c (.boxr 210 [.dat 5 (.int .u8), .int .i64]), .c (.o (.dat 167 Y21))]
def Z46.u (n : Nat) (v : VA Z46.a) (K : RES -> Prop) : Prop := Z46.c n v.1.1 v.1.2.1 v.2.1 (fun r0 r1 r2 => K ⟨.c (.row ⟨102, .prod (.int .i64) Y16, r0, 1, none⟩), [[.boxr 210 [.dat 5 (.int .u8) r1, .int .i64 r2]]]⟩)
theorem Z46_ok : ∀ n v K, Z46.u n v K -> callM C X0 n 138 (fillA Z46.a v) K :=
 call_tell hX (fn := Try.f138) (c := bodyOf Try.f138) (by kernel_rfl) (by kernel_rfl) (A := Z46.a) (u := Z46.u) (fun _ _ h => h) (call := D42) (lp := fun n => noL) (D42_ok hX) (fun n => noL_ok) (fun n v K => by kernel_rfl)
def D43 (n : Nat) : CallF := orC 138 Z46.a (Z46.u n) (D42 n)
theorem D43_ok : ∀ n g a K, D43 n g a K -> callM C X0 n g a K := fun n => orC_ok (Z46_ok hX n) (D42_ok hX n)
abbrev Z66.a : List TS := [.c (.o (.dat 102 Y15))]
def Z66.u (n : Nat) (v : VA Z66.a) (K : RES -> Prop) : Prop := Z66.c n v.1 (fun r0 => K ⟨.c (.row ⟨5, .int .u8, r0, 99, none⟩), []⟩)
abbrev Z66.l3.s : ST := ⟨[(0, .c (.o (.dat 102 Y15))), (3, .c (.o (.int .i64))), (4, .c (.o (.int .i64)))], [], [], [], []⟩
def Z66.l3.u (n : Nat) (v : Z66.l3.s.V) (K : X -> St -> Prop) : Prop := Z66.l3 n v.1.1 v.1.2.1 v.1.2.2.1 (fun y0 => K (.exit 0) ⟨[(3, .c (.int .i64 y0))], [], [], [], []⟩)
theorem Z66.l3_ok : ∀ n v K, Z66.l3.u n v K -> loopM C X0 n 139 3 (Z66.l3.s.fill v) K :=
 loop_tell hX (fn := Try.f139) (c := bodyOf Try.f139) (a := loopOf Try.f139 3) (li := liOf (C.fi 139).loops 3) (by kernel_rfl) (by kernel_rfl) (of_decide_eq_true rfl) (by kernel_rfl) (by kernel_rfl) (T := Z66.l3.s) (u := Z66.l3.u) (fun _ _ h => h) (call := D43) (lp := fun n => noL) (D43_ok hX) (fun n => noL_ok) (fun n v K => by kernel_rfl)
theorem Z66_ok : ∀ n v K, Z66.u n v K -> callM C X0 n 139 (fillA Z66.a v) K :=
 call_tell hX (fn := Try.f139) (c := bodyOf Try.f139) (by kernel_rfl) (by kernel_rfl) (A := Z66.a) (u := Z66.u) (fun _ _ h => h) (call := D43) (lp := fun n => orL 3 Z66.l3.s (Z66.l3.u n) noL) (D43_ok hX) (fun n => (orL_ok (Z66.l3_ok hX n) noL_ok)) (fun n v K => by kernel_rfl)
def D44 (n : Nat) : CallF := orC 139 Z66.a (Z66.u n) (D43 n)
theorem D44_ok : ∀ n g a K, D44 n g a K -> callM C X0 n g a K := fun n => orC_ok (Z66_ok hX n) (D43_ok hX n)
abbrev Z32.a : List TS := [.c (.o (.dat 5 (.int .u8)))]
def Z32.u (n : Nat) (v : VA Z32.a) (K : RES -> Prop) : Prop := Z32.c n v.1 (fun r0 r1 r2 r3 => K ⟨.tup [.c (.row ⟨167, .prod .str (.int .i64), r0, 0, none⟩), .c (.row ⟨102, .prod (.int .i64) Y16, r1, 1, none⟩), .c (.int .i64 r2), .c (.int .i64 r3)], []⟩)
theorem Z32_ok : ∀ n v K, Z32.u n v K -> callM C X0 n 66 (fillA Z32.a v) K :=
 call_tell hX (fn := Try.f66) (c := bodyOf Try.f66) (by kernel_rfl) (by kernel_rfl) (A := Z32.a) (u := Z32.u) (fun _ _ h => h) (call := D44) (lp := fun n => noL) (D44_ok hX) (fun n => noL_ok) (fun n v K => by kernel_rfl)
def D45 (n : Nat) : CallF := orC 66 Z32.a (Z32.u n) (D44 n)
theorem D45_ok : ∀ n g a K, D45 n g a K -> callM C X0 n g a K := fun n => orC_ok (Z32_ok hX n) (D44_ok hX n)
abbrev Z65.a : List TS := [.c (.o (.dat 167 Y21)), .a [.o (.int .i64), .o (.int .i64), .o (.int .i64), .o (.int .i64), .o (.dat 155 (.int .u64))]]
def Z65.u (n : Nat) (v : VA Z65.a) (K : RES -> Prop) : Prop := Z65.c n v.1 v.2.1.1 v.2.1.2.1 v.2.1.2.2.1 v.2.1.2.2.2.1 v.2.1.2.2.2.2.1 (fun r0 => K ⟨.c (.bool r0), []⟩)
theorem Z65_ok : ∀ n v K, Z65.u n v K -> callM C X0 n 196 (fillA Z65.a v) K :=
 call_tell hX (fn := Try.f196) (c := bodyOf Try.f196) (by kernel_rfl) (by kernel_rfl) (A := Z65.a) (u := Z65.u) (fun _ _ h => h) (call := D45) (lp := fun n => noL) (D45_ok hX) (fun n => noL_ok) (fun n v K => by kernel_rfl)
def D46 (n : Nat) : CallF := orC 196 Z65.a (Z65.u n) (D45 n)
theorem D46_ok : ∀ n g a K, D46 n g a K -> callM C X0 n g a K := fun n => orC_ok (Z65_ok hX n) (D45_ok hX n)
abbrev Z33.a : List TS := [.c (.o (.dat 167 Y21)), .c (.o (.dat 102 Y15))]
def Z33.u (n : Nat) (v : VA Z33.a) (K : RES -> Prop) : Prop := Z33.c n v.1 v.2.1 (fun r0 => K ⟨.c (.bool r0), []⟩)
abbrev Z33.l5.s : ST := ⟨[(0, .c (.o (.dat 167 Y21))), (1, .c (.o (.dat 102 Y15))), (5, .c (.o (.int .i64))), (6, .c (.o (.int .i64)))], [], [], [], []⟩
def Z33.l5.u (n : Nat) (v : Z33.l5.s.V) (K : X -> St -> Prop) : Prop := Z33.l5 n v.1.1 v.1.2.1 v.1.2.2.1 v.1.2.2.2.1 (fun y0 => K (.exit 0) ⟨[(5, .c (.int .i64 y0))], [], [], [], []⟩) (fun y0 => K .ret ⟨[(4, .c (.bool y0))], [], [], [], []⟩)
theorem Z33.l5_ok : ∀ n v K, Z33.l5.u n v K -> loopM C X0 n 140 5 (Z33.l5.s.fill v) K :=
 loop_tell hX (fn := Try.f140) (c := bodyOf Try.f140) (a := loopOf Try.f140 5) (li := liOf (C.fi 140).loops 5) (by kernel_rfl) (by kernel_rfl) (of_decide_eq_true rfl) (by kernel_rfl) (by kernel_rfl) (T := Z33.l5.s) (u := Z33.l5.u) (fun _ _ h => h) (call := D46) (lp := fun n => noL) (D46_ok hX) (fun n => noL_ok) (fun n v K => by kernel_rfl)
theorem Z33_ok : ∀ n v K, Z33.u n v K -> callM C X0 n 140 (fillA Z33.a v) K :=
 call_tell hX (fn := Try.f140) (c := bodyOf Try.f140) (by kernel_rfl) (by kernel_rfl) (A := Z33.a) (u := Z33.u) (fun _ _ h => h) (call := D46) (lp := fun n => orL 5 Z33.l5.s (Z33.l5.u n) noL) (D46_ok hX) (fun n => (orL_ok (Z33.l5_ok hX n) noL_ok)) (fun n v K => by kernel_rfl)
def D47 (n : Nat) : CallF := orC 140 Z33.a (Z33.u n) (D46 n)
theorem D47_ok : ∀ n g a K, D47 n g a K -> callM C X0 n g a K := fun n => orC_ok (Z33_ok hX n) (D46_ok hX n)
abbrev Z62.a : List TS := [.c (.o (.dat 102 Y15))]
def Z62.u (n : Nat) (v : VA Z62.a) (K : RES -> Prop) : Prop := Z62.c n v.1 (fun r0 => K ⟨.c (.row ⟨240, .prod (.int .i64) (.int .i64), r0, 99, none⟩), []⟩)
abbrev Z62.l6.s : ST := ⟨[(0, .c (.o (.dat 102 Y15))), (3, .c (.o (.own 96))), (4, .c (.o (.int .i64))), (5, .c (.o (.int .i64)))], [⟨96, 240, .prod (.int .i64) (.int .i64), 99⟩], [], [], []⟩
def Z62.l6.u (n : Nat) (v : Z62.l6.s.V) (K : X -> St -> Prop) : Prop := Z62.l6 n v.1.1 v.1.2.2.1 v.1.2.2.2.1 v.2.1.1 (fun y0 y1 y2 => K (.exit 2) ⟨[(0, .c (.dat 102 Y15 y0)), (3, .c (.own 96)), (4, .c (.int .i64 y1))], [(96, ⟨240, .prod (.int .i64) (.int .i64), y2, 99, none⟩)], [], [], []⟩)
abbrev Z62.l3.s : ST := ⟨[(0, .c (.o (.dat 102 Y15))), (3, .c (.o (.own 96))), (4, .c (.o (.int .i64)))], [⟨96, 240, .prod (.int .i64) (.int .i64), 99⟩], [], [], []⟩
def Z62.l3.u (n : Nat) (v : Z62.l3.s.V) (K : X -> St -> Prop) : Prop := Z62.l3 n v.1.1 v.1.2.2.1 v.2.1.1 (fun y0 => K (.exit 0) ⟨[(3, .c (.own 96))], [(96, ⟨240, .prod (.int .i64) (.int .i64), y0, 99, none⟩)], [], [], []⟩)
theorem Z62.l6_ok : ∀ n v K, Z62.l6.u n v K -> loopM C X0 n 141 6 (Z62.l6.s.fill v) K :=
 loop_tell hX (fn := Try.f141) (c := bodyOf Try.f141) (a := loopOf Try.f141 6) (li := liOf (C.fi 141).loops 6) (by kernel_rfl) (by kernel_rfl) (of_decide_eq_true rfl) (by kernel_rfl) (by kernel_rfl) (T := Z62.l6.s) (u := Z62.l6.u) (fun _ _ h => h) (call := D47) (lp := fun n => noL) (D47_ok hX) (fun n => noL_ok) (fun n v K => by kernel_rfl)
theorem Z62.l3_ok : ∀ n v K, Z62.l3.u n v K -> loopM C X0 n 141 3 (Z62.l3.s.fill v) K :=
 loop_tell hX (fn := Try.f141) (c := bodyOf Try.f141) (a := loopOf Try.f141 3) (li := liOf (C.fi 141).loops 3) (by kernel_rfl) (by kernel_rfl) (of_decide_eq_true rfl) (by kernel_rfl) (by kernel_rfl) (T := Z62.l3.s) (u := Z62.l3.u) (fun _ _ h => h) (call := D47) (lp := fun n => orL 6 Z62.l6.s (Z62.l6.u n) noL) (D47_ok hX) (fun n => (orL_ok (Z62.l6_ok hX n) noL_ok)) (fun n v K => by kernel_rfl)
theorem Z62_ok : ∀ n v K, Z62.u n v K -> callM C X0 n 141 (fillA Z62.a v) K :=
 call_tell hX (fn := Try.f141) (c := bodyOf Try.f141) (by kernel_rfl) (by kernel_rfl) (A := Z62.a) (u := Z62.u) (fun _ _ h => h) (call := D47) (lp := fun n => orL 3 Z62.l3.s (Z62.l3.u n) noL) (D47_ok hX) (fun n => (orL_ok (Z62.l3_ok hX n) noL_ok)) (fun n v K => by kernel_rfl)
def D48 (n : Nat) : CallF := orC 141 Z62.a (Z62.u n) (D47 n)
theorem D48_ok : ∀ n g a K, D48 n g a K -> callM C X0 n g a K := fun n => orC_ok (Z62_ok hX n) (D47_ok hX n)
abbrev Z34.a : List TS := [.c (.o (.dat 167 Y21)), .c (.o (.dat 102 Y15)), .c (.o (.int .i64)), .c (.o (.int .i64))]
def Z34.u (n : Nat) (v : VA Z34.a) (K : RES -> Prop) : Prop := Z34.c n v.1 v.2.1 v.2.2.1 v.2.2.2.1 (fun r0 r1 => K ⟨.tup [.c (.row ⟨102, .prod (.int .i64) Y16, r0, 99, none⟩), .c (.bool r1)], []⟩)
theorem Z34_ok : ∀ n v K, Z34.u n v K -> callM C X0 n 67 (fillA Z34.a v) K :=
 call_tell hX (fn := Try.f67) (c := bodyOf Try.f67) (by kernel_rfl) (by kernel_rfl) (A := Z34.a) (u := Z34.u) (fun _ _ h => h) (call := D48) (lp := fun n => noL) (D48_ok hX) (fun n => noL_ok) (fun n v K => by kernel_rfl)
def D49 (n : Nat) : CallF := orC 67 Z34.a (Z34.u n) (D48 n)
theorem D49_ok : ∀ n g a K, D49 n g a K -> callM C X0 n g a K := fun n => orC_ok (Z34_ok hX n) (D48_ok hX n)
abbrev Z22.a : List TS := [.c (.o (.dat 167 Y21)), .a [.o (.int .i64), .o (.int .i64), .o (.int .i64), .o (.int .i64), .o (.dat 155 (.int .u64))]]
def Z22.u (n : Nat) (v : VA Z22.a) (K : RES -> Prop) : Prop := Z22.c n v.1 v.2.1.1 v.2.1.2.1 v.2.1.2.2.1 v.2.1.2.2.2.1 v.2.1.2.2.2.2.1 (fun r0 => K ⟨.c (.bool r0), []⟩)
theorem Z22_ok : ∀ n v K, Z22.u n v K -> callM C X0 n 198 (fillA Z22.a v) K :=
 call_tell hX (fn := Try.f198) (c := bodyOf Try.f198) (by kernel_rfl) (by kernel_rfl) (A := Z22.a) (u := Z22.u) (fun _ _ h => h) (call := D49) (lp := fun n => noL) (D49_ok hX) (fun n => noL_ok) (fun n v K => by kernel_rfl)
def D50 (n : Nat) : CallF := orC 198 Z22.a (Z22.u n) (D49 n)
theorem D50_ok : ∀ n g a K, D50 n g a K -> callM C X0 n g a K := fun n => orC_ok (Z22_ok hX n) (D49_ok hX n)
abbrev Z8.a : List TS := [.a [.o (.int .i64), .o (.int .i64), .o (.int .i64), .o (.int .i64), .o (.dat 155 (.int .u64))], .a [.o (.int .i64), .o (.int .i64), .o (.int .i64), .o (.int .i64), .o (.dat 155 (.int .u64))]]
def Z8.u (n : Nat) (v : VA Z8.a) (K : RES -> Prop) : Prop := Z8.c n v.1.1 v.1.2.1 v.1.2.2.1 v.1.2.2.2.1 v.1.2.2.2.2.1 v.2.1.1 v.2.1.2.1 v.2.1.2.2.1 v.2.1.2.2.2.1 v.2.1.2.2.2.2.1 (fun r0 => K ⟨.c (.bool r0), []⟩)
theorem Z8_ok : ∀ n v K, Z8.u n v K -> callM C X0 n 199 (fillA Z8.a v) K :=
 call_tell hX (fn := Try.f199) (c := bodyOf Try.f199) (by kernel_rfl) (by kernel_rfl) (A := Z8.a) (u := Z8.u) (fun _ _ h => h) (call := D50) (lp := fun n => noL) (D50_ok hX) (fun n => noL_ok) (fun n v K => by kernel_rfl)
def D51 (n : Nat) : CallF := orC 199 Z8.a (Z8.u n) (D50 n)
theorem D51_ok : ∀ n g a K, D51 n g a K -> callM C X0 n g a K := fun n => orC_ok (Z8_ok hX n) (D50_ok hX n)
abbrev Z15.a : List TS := [.c (.o (.dat 167 Y21)), .c (.o (.dat 102 Y15))]
def Z15.u (n : Nat) (v : VA Z15.a) (K : RES -> Prop) : Prop := Z15.c n v.1 v.2.1 (fun r0 => K ⟨.c (.bool r0), []⟩)
abbrev Z15.l5.s : ST := ⟨[(0, .c (.o (.dat 167 Y21))), (1, .c (.o (.dat 102 Y15))), (5, .c (.o (.int .i64))), (16, .c (.o (.dat 102 Y15))), (17, .c (.o (.int .i64))), (18, .c (.o (.int .i64)))], [], [], [], []⟩
def Z15.l5.u (n : Nat) (v : Z15.l5.s.V) (K : X -> St -> Prop) : Prop := Z15.l5 n v.1.1 v.1.2.1 v.1.2.2.2.1 v.1.2.2.2.2.1 v.1.2.2.1 v.1.2.2.2.2.2.1 (fun y0 => K (.exit 0) ⟨[(5, .c (.int .i64 y0))], [], [], [], []⟩) (fun y0 => K .ret ⟨[(4, .c (.bool y0))], [], [], [], []⟩)
theorem Z15.l5_ok : ∀ n v K, Z15.l5.u n v K -> loopM C X0 n 147 5 (Z15.l5.s.fill v) K :=
 loop_tell hX (fn := Try.f147) (c := bodyOf Try.f147) (a := loopOf Try.f147 5) (li := liOf (C.fi 147).loops 5) (by kernel_rfl) (by kernel_rfl) (of_decide_eq_true rfl) (by kernel_rfl) (by kernel_rfl) (T := Z15.l5.s) (u := Z15.l5.u) (fun _ _ h => h) (call := D51) (lp := fun n => noL) (D51_ok hX) (fun n => noL_ok) (fun n v K => by kernel_rfl)
theorem Z15_ok : ∀ n v K, Z15.u n v K -> callM C X0 n 147 (fillA Z15.a v) K :=
 call_tell hX (fn := Try.f147) (c := bodyOf Try.f147) (by kernel_rfl) (by kernel_rfl) (A := Z15.a) (u := Z15.u) (fun _ _ h => h) (call := D51) (lp := fun n => orL 5 Z15.l5.s (Z15.l5.u n) noL) (D51_ok hX) (fun n => (orL_ok (Z15.l5_ok hX n) noL_ok)) (fun n v K => by kernel_rfl)
def D52 (n : Nat) : CallF := orC 147 Z15.a (Z15.u n) (D51 n)
theorem D52_ok : ∀ n g a K, D52 n g a K -> callM C X0 n g a K := fun n => orC_ok (Z15_ok hX n) (D51_ok hX n)
abbrev Z6.a : List TS := [.c (.o (.dat 167 Y21)), .c (.o (.dat 102 Y15))]
def Z6.u (n : Nat) (v : VA Z6.a) (K : RES -> Prop) : Prop := Z6.c n v.1 v.2.1 (fun r0 => K ⟨.c (.bool r0), []⟩)
theorem Z6_ok : ∀ n v K, Z6.u n v K -> callM C X0 n 143 (fillA Z6.a v) K :=
 call_tell hX (fn := Try.f143) (c := bodyOf Try.f143) (by kernel_rfl) (by kernel_rfl) (A := Z6.a) (u := Z6.u) (fun _ _ h => h) (call := D52) (lp := fun n => noL) (D52_ok hX) (fun n => noL_ok) (fun n v K => by kernel_rfl)
def D53 (n : Nat) : CallF := orC 143 Z6.a (Z6.u n) (D52 n)
theorem D53_ok : ∀ n g a K, D53 n g a K -> callM C X0 n g a K := fun n => orC_ok (Z6_ok hX n) (D52_ok hX n)
abbrev Z17.a : List TS := [.c (.o (.dat 102 Y15))]
def Z17.u (n : Nat) (v : VA Z17.a) (K : RES -> Prop) : Prop := Z17.c n v.1 (fun r0 => K ⟨.c (.int .i64 r0), []⟩)
abbrev Z17.l3.s : ST := ⟨[(3, .c (.o (.int .i64))), (6, .c (.o (.dat 102 Y15))), (7, .c (.o (.int .i64))), (8, .c (.o (.int .i64)))], [], [], [], []⟩
def Z17.l3.u (n : Nat) (v : Z17.l3.s.V) (K : X -> St -> Prop) : Prop := Z17.l3 n v.1.2.1 v.1.2.2.1 v.1.1 v.1.2.2.2.1 (fun y0 => K (.exit 0) ⟨[(3, .c (.int .i64 y0))], [], [], [], []⟩)
theorem Z17.l3_ok : ∀ n v K, Z17.l3.u n v K -> loopM C X0 n 144 3 (Z17.l3.s.fill v) K :=
 loop_tell hX (fn := Try.f144) (c := bodyOf Try.f144) (a := loopOf Try.f144 3) (li := liOf (C.fi 144).loops 3) (by kernel_rfl) (by kernel_rfl) (of_decide_eq_true rfl) (by kernel_rfl) (by kernel_rfl) (T := Z17.l3.s) (u := Z17.l3.u) (fun _ _ h => h) (call := D53) (lp := fun n => noL) (D53_ok hX) (fun n => noL_ok) (fun n v K => by kernel_rfl)
theorem Z17_ok : ∀ n v K, Z17.u n v K -> callM C X0 n 144 (fillA Z17.a v) K :=
 call_tell hX (fn := Try.f144) (c := bodyOf Try.f144) (by kernel_rfl) (by kernel_rfl) (A := Z17.a) (u := Z17.u) (fun _ _ h => h) (call := D53) (lp := fun n => orL 3 Z17.l3.s (Z17.l3.u n) noL) (D53_ok hX) (fun n => (orL_ok (Z17.l3_ok hX n) noL_ok)) (fun n v K => by kernel_rfl)
def D54 (n : Nat) : CallF := orC 144 Z17.a (Z17.u n) (D53 n)
theorem D54_ok : ∀ n g a K, D54 n g a K -> callM C X0 n g a K := fun n => orC_ok (Z17_ok hX n) (D53_ok hX n)
abbrev Z24.a : List TS := [.c (.o (.int .i64))]
def Z24.u (n : Nat) (v : VA Z24.a) (K : RES -> Prop) : Prop := Z24.c n v.1 (fun r0 r1 => K ⟨.agg [.int .i64 r0, .row ⟨155, .int .u64, r1, 99, none⟩], []⟩)
theorem Z24_ok : ∀ n v K, Z24.u n v K -> callM C X0 n 176 (fillA Z24.a v) K :=
 call_tell hX (fn := Try.f176) (c := bodyOf Try.f176) (by kernel_rfl) (by kernel_rfl) (A := Z24.a) (u := Z24.u) (fun _ _ h => h) (call := D54) (lp := fun n => noL) (D54_ok hX) (fun n => noL_ok) (fun n v K => by kernel_rfl)
def D55 (n : Nat) : CallF := orC 176 Z24.a (Z24.u n) (D54 n)
theorem D55_ok : ∀ n g a K, D55 n g a K -> callM C X0 n g a K := fun n => orC_ok (Z24_ok hX n) (D54_ok hX n)
abbrev Z1.a : List TS := [.a [.o (.int .i64), .o (.dat 155 (.int .u64))], .c (.o (.int .i64)), .c (.o (.int .i64))]
def Z1.u (n : Nat) (v : VA Z1.a) (K : RES -> Prop) : Prop := Z1.c n v.1.1 v.1.2.1 v.2.1 v.2.2.1 (fun r0 r1 => K ⟨.agg [.int .i64 r0, .row ⟨155, .int .u64, r1, 99, none⟩], []⟩)
abbrev Z1.l3.s : ST := ⟨[(1, .c (.o (.int .i64))), (2, .c (.o (.int .i64))), (3, .c (.o (.pbox 3 0))), (6, .c (.o (.pbox 6 0))), (7, .c (.o (.pbox 7 0))), (15, .c (.o (.int .i64))), (16, .c (.o (.int .i64)))], [⟨385, 155, .int .u64, 99⟩, ⟨1000193, 155, .int .u64, 99⟩], [⟨3, 58, [.o (.int .i64), .o (.dat 155 (.int .u64))], false⟩, ⟨6, 58, [.o (.int .i64), .o (.own 1000193)], false⟩, ⟨7, 58, [.o (.int .i64), .o (.own 385)], false⟩], [], []⟩
def Z1.l3.u (n : Nat) (v : Z1.l3.s.V) (K : X -> St -> Prop) : Prop := Z1.l3 n v.1.1 v.1.2.1 v.1.2.2.2.2.2.1 v.2.1.2.1 v.2.2.1.1 v.2.2.1.2.1 v.2.2.2.1.1 v.2.2.2.2.1.1 v.1.2.2.2.2.2.2.1 v.2.1.1 (fun y0 y1 y2 y3 y4 => K (.exit 0) ⟨[(2, .c (.int .i64 y0)), (6, .c (.pbox 6 0)), (7, .c (.pbox 7 0))], [(385, ⟨155, .int .u64, y1, 99, none⟩), (1000193, ⟨155, .int .u64, y2, 99, none⟩)], [(6, ⟨58, [.int .i64 y3, .own 1000193], false⟩), (7, ⟨58, [.int .i64 y4, .own 385], false⟩)], [], []⟩)
theorem Z1.l3_ok : ∀ n v K, Z1.l3.u n v K -> loopM C X0 n 221 3 (Z1.l3.s.fill v) K :=
 loop_tell hX (fn := Try.f221) (c := bodyOf Try.f221) (a := loopOf Try.f221 3) (li := liOf (C.fi 221).loops 3) (by kernel_rfl) (by kernel_rfl) (of_decide_eq_true rfl) (by kernel_rfl) (by kernel_rfl) (T := Z1.l3.s) (u := Z1.l3.u) (fun _ _ h => h) (call := D55) (lp := fun n => noL) (D55_ok hX) (fun n => noL_ok) (fun n v K => by kernel_rfl)
theorem Z1_ok : ∀ n v K, Z1.u n v K -> callM C X0 n 221 (fillA Z1.a v) K :=
 call_tell hX (fn := Try.f221) (c := bodyOf Try.f221) (by kernel_rfl) (by kernel_rfl) (A := Z1.a) (u := Z1.u) (fun _ _ h => h) (call := D55) (lp := fun n => orL 3 Z1.l3.s (Z1.l3.u n) noL) (D55_ok hX) (fun n => (orL_ok (Z1.l3_ok hX n) noL_ok)) (fun n v K => by kernel_rfl)
def D56 (n : Nat) : CallF := orC 221 Z1.a (Z1.u n) (D55 n)
theorem D56_ok : ∀ n g a K, D56 n g a K -> callM C X0 n g a K := fun n => orC_ok (Z1_ok hX n) (D55_ok hX n)
abbrev Z12.a : List TS := [.a [.o (.int .i64), .o (.dat 155 (.int .u64))]]
def Z12.u (n : Nat) (v : VA Z12.a) (K : RES -> Prop) : Prop := Z12.c n v.1.1 v.1.2.1 (fun r0 r1 r2 r3 r4 => K ⟨.agg [.int .i64 r0, .int .i64 r1, .int .i64 r2, .int .i64 r3, .dat 155 (.int .u64) r4], []⟩)
theorem Z12_ok : ∀ n v K, Z12.u n v K -> callM C X0 n 220 (fillA Z12.a v) K :=
 call_tell hX (fn := Try.f220) (c := bodyOf Try.f220) (by kernel_rfl) (by kernel_rfl) (A := Z12.a) (u := Z12.u) (fun _ _ h => h) (call := D56) (lp := fun n => noL) (D56_ok hX) (fun n => noL_ok) (fun n v K => by kernel_rfl)
def D57 (n : Nat) : CallF := orC 220 Z12.a (Z12.u n) (D56 n)
theorem D57_ok : ∀ n g a K, D57 n g a K -> callM C X0 n g a K := fun n => orC_ok (Z12_ok hX n) (D56_ok hX n)
abbrev Z9.a : List TS := [.a [.o (.int .i64), .o (.int .i64), .o (.int .i64), .o (.int .i64), .o (.dat 155 (.int .u64))], .c (.o (.int .i64)), .c (.o (.int .i64))]
def Z9.u (n : Nat) (v : VA Z9.a) (K : RES -> Prop) : Prop := Z9.c n v.1.1 v.1.2.1 v.1.2.2.1 v.1.2.2.2.1 v.1.2.2.2.2.1 v.2.1 v.2.2.1 (fun r0 r1 r2 r3 r4 => K ⟨.agg [.int .i64 r0, .int .i64 r1, .int .i64 r2, .int .i64 r3, .dat 155 (.int .u64) r4], []⟩)
theorem Z9_ok : ∀ n v K, Z9.u n v K -> callM C X0 n 197 (fillA Z9.a v) K :=
 call_tell hX (fn := Try.f197) (c := bodyOf Try.f197) (by kernel_rfl) (by kernel_rfl) (A := Z9.a) (u := Z9.u) (fun _ _ h => h) (call := D57) (lp := fun n => noL) (D57_ok hX) (fun n => noL_ok) (fun n v K => by kernel_rfl)
def D58 (n : Nat) : CallF := orC 197 Z9.a (Z9.u n) (D57 n)
theorem D58_ok : ∀ n g a K, D58 n g a K -> callM C X0 n g a K := fun n => orC_ok (Z9_ok hX n) (D57_ok hX n)
abbrev Z3.a : List TS := [.a [.o (.int .i64), .o (.row 155 (.int .u64) 99)], .c (.o (.int .i64)), .a [.o (.int .i64), .o (.dat 155 (.int .u64))]]
def Z3.u (n : Nat) (v : VA Z3.a) (K : RES -> Prop) : Prop := Z3.c n v.1.1 v.1.2.1 v.2.1 v.2.2.1.1 v.2.2.1.2.1 (fun r0 r1 => K ⟨.tup [], [[.int .i64 r0, .row ⟨155, .int .u64, r1, 99, none⟩]]⟩)
abbrev Z3.l2.s : ST := ⟨[(1, .c (.o (.int .i64))), (3, .c (.o (.pbox 3 0))), (10, .c (.o (.dat 155 (.int .u64)))), (11, .c (.o (.int .i64))), (12, .c (.o (.int .i64)))], [⟨1, 155, .int .u64, 99⟩], [⟨3, 58, [.o (.int .i64), .o (.own 1)], false⟩], [1], []⟩
def Z3.l2.u (n : Nat) (v : Z3.l2.s.V) (K : X -> St -> Prop) : Prop := Z3.l2 n v.1.1 v.1.2.2.1 v.1.2.2.2.1 v.2.2.1.1 v.1.2.2.2.2.1 v.2.1.1 (fun y0 => K (.exit 0) ⟨[], [(1, ⟨155, .int .u64, y0, 99, none⟩)], [], [1], []⟩)
theorem Z3.l2_ok : ∀ n v K, Z3.l2.u n v K -> loopM C X0 n 222 2 (Z3.l2.s.fill v) K :=
 loop_tell hX (fn := Try.f222) (c := bodyOf Try.f222) (a := loopOf Try.f222 2) (li := liOf (C.fi 222).loops 2) (by kernel_rfl) (by kernel_rfl) (of_decide_eq_true rfl) (by kernel_rfl) (by kernel_rfl) (T := Z3.l2.s) (u := Z3.l2.u) (fun _ _ h => h) (call := D58) (lp := fun n => noL) (D58_ok hX) (fun n => noL_ok) (fun n v K => by kernel_rfl)
theorem Z3_ok : ∀ n v K, Z3.u n v K -> callM C X0 n 222 (fillA Z3.a v) K :=
 call_tell hX (fn := Try.f222) (c := bodyOf Try.f222) (by kernel_rfl) (by kernel_rfl) (A := Z3.a) (u := Z3.u) (fun _ _ h => h) (call := D58) (lp := fun n => orL 2 Z3.l2.s (Z3.l2.u n) noL) (D58_ok hX) (fun n => (orL_ok (Z3.l2_ok hX n) noL_ok)) (fun n v K => by kernel_rfl)
def D59 (n : Nat) : CallF := orC 222 Z3.a (Z3.u n) (D58 n)
theorem D59_ok : ∀ n g a K, D59 n g a K -> callM C X0 n g a K := fun n => orC_ok (Z3_ok hX n) (D58_ok hX n)
abbrev Z2.a : List TS := [.a [.o (.int .i64), .o (.dat 155 (.int .u64))], .a [.o (.int .i64), .o (.dat 155 (.int .u64))]]
def Z2.u (n : Nat) (v : VA Z2.a) (K : RES -> Prop) : Prop := Z2.c n v.1.1 v.1.2.1 v.2.1.1 v.2.1.2.1 (fun r0 r1 => K ⟨.agg [.int .i64 r0, .row ⟨155, .int .u64, r1, 99, none⟩], []⟩)
theorem Z2_ok : ∀ n v K, Z2.u n v K -> callM C X0 n 200 (fillA Z2.a v) K :=
 call_tell hX (fn := Try.f200) (c := bodyOf Try.f200) (by kernel_rfl) (by kernel_rfl) (A := Z2.a) (u := Z2.u) (fun _ _ h => h) (call := D59) (lp := fun n => noL) (D59_ok hX) (fun n => noL_ok) (fun n v K => by kernel_rfl)
def D60 (n : Nat) : CallF := orC 200 Z2.a (Z2.u n) (D59 n)
theorem D60_ok : ∀ n g a K, D60 n g a K -> callM C X0 n g a K := fun n => orC_ok (Z2_ok hX n) (D59_ok hX n)
abbrev Z20.a : List TS := [.c (.o (.row 102 Y15 99)), .c (.o (.dat 102 Y15))]
def Z20.u (n : Nat) (v : VA Z20.a) (K : RES -> Prop) : Prop := Z20.c n v.1 v.2.1 (fun r0 => K ⟨.c (.row ⟨102, .prod (.int .i64) Y16, r0, 1, none⟩), []⟩)
abbrev Z20.l2.s : ST := ⟨[(0, .c (.o (.own 0))), (8, .c (.o (.dat 102 Y15))), (9, .c (.o (.int .i64))), (10, .c (.o (.int .i64)))], [⟨0, 102, .prod (.int .i64) Y16, 1⟩], [], [], []⟩
def Z20.l2.u (n : Nat) (v : Z20.l2.s.V) (K : X -> St -> Prop) : Prop := Z20.l2 n v.1.2.1 v.1.2.2.1 v.1.2.2.2.1 v.2.1.1 (fun y0 => K (.exit 0) ⟨[(0, .c (.own 0))], [(0, ⟨102, .prod (.int .i64) Y16, y0, 1, none⟩)], [], [], []⟩)
theorem Z20.l2_ok : ∀ n v K, Z20.l2.u n v K -> loopM C X0 n 148 2 (Z20.l2.s.fill v) K :=
 loop_tell hX (fn := Try.f148) (c := bodyOf Try.f148) (a := loopOf Try.f148 2) (li := liOf (C.fi 148).loops 2) (by kernel_rfl) (by kernel_rfl) (of_decide_eq_true rfl) (by kernel_rfl) (by kernel_rfl) (T := Z20.l2.s) (u := Z20.l2.u) (fun _ _ h => h) (call := D60) (lp := fun n => noL) (D60_ok hX) (fun n => noL_ok) (fun n v K => by kernel_rfl)
theorem Z20_ok : ∀ n v K, Z20.u n v K -> callM C X0 n 148 (fillA Z20.a v) K :=
 call_tell hX (fn := Try.f148) (c := bodyOf Try.f148) (by kernel_rfl) (by kernel_rfl) (A := Z20.a) (u := Z20.u) (fun _ _ h => h) (call := D60) (lp := fun n => orL 2 Z20.l2.s (Z20.l2.u n) noL) (D60_ok hX) (fun n => (orL_ok (Z20.l2_ok hX n) noL_ok)) (fun n v K => by kernel_rfl)
def D61 (n : Nat) : CallF := orC 148 Z20.a (Z20.u n) (D60 n)
theorem D61_ok : ∀ n g a K, D61 n g a K -> callM C X0 n g a K := fun n => orC_ok (Z20_ok hX n) (D60_ok hX n)
abbrev Z21.a : List TS := [.c (.o (.row 102 Y15 1)), .c (.o (.dat 102 Y15))]
def Z21.u (n : Nat) (v : VA Z21.a) (K : RES -> Prop) : Prop := Z21.c n v.1 v.2.1 (fun r0 => K ⟨.c (.row ⟨102, .prod (.int .i64) Y16, r0, 1, none⟩), []⟩)
abbrev Z21.l2.s : ST := ⟨[(0, .c (.o (.own 0))), (8, .c (.o (.dat 102 Y15))), (9, .c (.o (.int .i64))), (10, .c (.o (.int .i64)))], [⟨0, 102, .prod (.int .i64) Y16, 1⟩], [], [], []⟩
def Z21.l2.u (n : Nat) (v : Z21.l2.s.V) (K : X -> St -> Prop) : Prop := Z21.l2 n v.1.2.1 v.1.2.2.1 v.1.2.2.2.1 v.2.1.1 (fun y0 => K (.exit 0) ⟨[(0, .c (.own 0))], [(0, ⟨102, .prod (.int .i64) Y16, y0, 1, none⟩)], [], [], []⟩)
theorem Z21.l2_ok : ∀ n v K, Z21.l2.u n v K -> loopM C X0 n 148 2 (Z21.l2.s.fill v) K :=
 loop_tell hX (fn := Try.f148) (c := bodyOf Try.f148) (a := loopOf Try.f148 2) (li := liOf (C.fi 148).loops 2) (by kernel_rfl) (by kernel_rfl) (of_decide_eq_true rfl) (by kernel_rfl) (by kernel_rfl) (T := Z21.l2.s) (u := Z21.l2.u) (fun _ _ h => h) (call := D61) (lp := fun n => noL) (D61_ok hX) (fun n => noL_ok) (fun n v K => by kernel_rfl)
theorem Z21_ok : ∀ n v K, Z21.u n v K -> callM C X0 n 148 (fillA Z21.a v) K :=
 call_tell hX (fn := Try.f148) (c := bodyOf Try.f148) (by kernel_rfl) (by kernel_rfl) (A := Z21.a) (u := Z21.u) (fun _ _ h => h) (call := D61) (lp := fun n => orL 2 Z21.l2.s (Z21.l2.u n) noL) (D61_ok hX) (fun n => (orL_ok (Z21.l2_ok hX n) noL_ok)) (fun n v K => by kernel_rfl)
def D62 (n : Nat) : CallF := orC 148 Z21.a (Z21.u n) (D61 n)
theorem D62_ok : ∀ n g a K, D62 n g a K -> callM C X0 n g a K := fun n => orC_ok (Z21_ok hX n) (D61_ok hX n)
abbrev Z16.a : List TS := [.c (.o (.dat 102 Y15)), .c (.o (.int .i64)), .c (.o (.int .i64))]
def Z16.u (n : Nat) (v : VA Z16.a) (K : RES -> Prop) : Prop := Z16.c n v.1 v.2.1 v.2.2.1 (fun r0 => K ⟨.c (.row ⟨102, .prod (.int .i64) Y16, r0, 1, none⟩), []⟩)
abbrev Z16.l4.s : ST := ⟨[(1, .c (.o (.int .i64))), (2, .c (.o (.int .i64))), (7, .c (.o (.own 224))), (8, .c (.o (.int .i64))), (14, .c (.o (.dat 102 Y15))), (15, .c (.o (.int .i64))), (16, .c (.o (.int .i64)))], [⟨224, 102, .prod (.int .i64) Y16, 1⟩], [], [], []⟩
def Z16.l4.u (n : Nat) (v : Z16.l4.s.V) (K : X -> St -> Prop) : Prop := Z16.l4 n v.1.1 v.1.2.1 v.1.2.2.2.2.1 v.1.2.2.2.2.2.1 v.1.2.2.2.1 v.1.2.2.2.2.2.2.1 v.2.1.1 (fun y0 => K (.exit 0) ⟨[(7, .c (.own 224))], [(224, ⟨102, .prod (.int .i64) Y16, y0, 1, none⟩)], [], [], []⟩)
theorem Z16.l4_ok : ∀ n v K, Z16.l4.u n v K -> loopM C X0 n 146 4 (Z16.l4.s.fill v) K :=
 loop_tell hX (fn := Try.f146) (c := bodyOf Try.f146) (a := loopOf Try.f146 4) (li := liOf (C.fi 146).loops 4) (by kernel_rfl) (by kernel_rfl) (of_decide_eq_true rfl) (by kernel_rfl) (by kernel_rfl) (T := Z16.l4.s) (u := Z16.l4.u) (fun _ _ h => h) (call := D62) (lp := fun n => noL) (D62_ok hX) (fun n => noL_ok) (fun n v K => by kernel_rfl)
theorem Z16_ok : ∀ n v K, Z16.u n v K -> callM C X0 n 146 (fillA Z16.a v) K :=
 call_tell hX (fn := Try.f146) (c := bodyOf Try.f146) (by kernel_rfl) (by kernel_rfl) (A := Z16.a) (u := Z16.u) (fun _ _ h => h) (call := D62) (lp := fun n => orL 4 Z16.l4.s (Z16.l4.u n) noL) (D62_ok hX) (fun n => (orL_ok (Z16.l4_ok hX n) noL_ok)) (fun n v K => by kernel_rfl)
def D63 (n : Nat) : CallF := orC 146 Z16.a (Z16.u n) (D62 n)
theorem D63_ok : ∀ n g a K, D63 n g a K -> callM C X0 n g a K := fun n => orC_ok (Z16_ok hX n) (D62_ok hX n)
abbrev Z11.a : List TS := [.c (.o (.dat 102 Y15))]
def Z11.u (n : Nat) (v : VA Z11.a) (K : RES -> Prop) : Prop := Z11.c n v.1 (fun r0 => K ⟨.c (.row ⟨102, .prod (.int .i64) Y16, r0, 99, none⟩), []⟩)
abbrev Z11.l3.s : ST := ⟨[(3, .c (.o (.own 256))), (9, .c (.o (.dat 102 Y15))), (10, .c (.o (.int .i64))), (11, .c (.o (.int .i64)))], [⟨256, 102, .prod (.int .i64) Y16, 99⟩], [], [], []⟩
def Z11.l3.u (n : Nat) (v : Z11.l3.s.V) (K : X -> St -> Prop) : Prop := Z11.l3 n v.1.2.1 v.1.2.2.1 v.1.2.2.2.1 v.2.1.1 (fun y0 => K (.exit 0) ⟨[(3, .c (.own 256))], [(256, ⟨102, .prod (.int .i64) Y16, y0, 99, none⟩)], [], [], []⟩)
theorem Z11.l3_ok : ∀ n v K, Z11.l3.u n v K -> loopM C X0 n 145 3 (Z11.l3.s.fill v) K :=
 loop_tell hX (fn := Try.f145) (c := bodyOf Try.f145) (a := loopOf Try.f145 3) (li := liOf (C.fi 145).loops 3) (by kernel_rfl) (by kernel_rfl) (of_decide_eq_true rfl) (by kernel_rfl) (by kernel_rfl) (T := Z11.l3.s) (u := Z11.l3.u) (fun _ _ h => h) (call := D63) (lp := fun n => noL) (D63_ok hX) (fun n => noL_ok) (fun n v K => by kernel_rfl)
theorem Z11_ok : ∀ n v K, Z11.u n v K -> callM C X0 n 145 (fillA Z11.a v) K :=
 call_tell hX (fn := Try.f145) (c := bodyOf Try.f145) (by kernel_rfl) (by kernel_rfl) (A := Z11.a) (u := Z11.u) (fun _ _ h => h) (call := D63) (lp := fun n => orL 3 Z11.l3.s (Z11.l3.u n) noL) (D63_ok hX) (fun n => (orL_ok (Z11.l3_ok hX n) noL_ok)) (fun n v K => by kernel_rfl)
def D64 (n : Nat) : CallF := orC 145 Z11.a (Z11.u n) (D63 n)
theorem D64_ok : ∀ n g a K, D64 n g a K -> callM C X0 n g a K := fun n => orC_ok (Z11_ok hX n) (D63_ok hX n)
abbrev Z7.a : List TS := [.c (.o (.dat 167 Y21)), .c (.o (.dat 102 Y15)), .c (.o (.int .i64)), .c (.o (.int .i64))]
def Z7.u (n : Nat) (v : VA Z7.a) (K : RES -> Prop) : Prop := Z7.c n v.1 v.2.1 v.2.2.1 v.2.2.2.1 (fun r0 r1 => K ⟨.tup [.c (.row ⟨102, .prod (.int .i64) Y16, r0, 99, none⟩), .c (.bool r1)], []⟩)
theorem Z7_ok : ∀ n v K, Z7.u n v K -> callM C X0 n 68 (fillA Z7.a v) K :=
 call_tell hX (fn := Try.f68) (c := bodyOf Try.f68) (by kernel_rfl) (by kernel_rfl) (A := Z7.a) (u := Z7.u) (fun _ _ h => h) (call := D64) (lp := fun n => noL) (D64_ok hX) (fun n => noL_ok) (fun n v K => by kernel_rfl)
def D65 (n : Nat) : CallF := orC 68 Z7.a (Z7.u n) (D64 n)
theorem D65_ok : ∀ n g a K, D65 n g a K -> callM C X0 n g a K := fun n => orC_ok (Z7_ok hX n) (D64_ok hX n)
abbrev Z27.a : List TS := [.c (.o (.dat 102 Y15)), .c (.o (.dat 102 Y15))]
def Z27.u (n : Nat) (v : VA Z27.a) (K : RES -> Prop) : Prop := Z27.c n v.1 v.2.1 (fun r0 => K ⟨.c (.bool r0), []⟩)
abbrev Z27.l4.s : ST := ⟨[(0, .c (.o (.dat 102 Y15))), (1, .c (.o (.dat 102 Y15))), (5, .c (.o (.int .i64)))], [], [], [], []⟩
def Z27.l4.u (n : Nat) (v : Z27.l4.s.V) (K : X -> St -> Prop) : Prop := Z27.l4 n v.1.1 v.1.2.1 v.1.2.2.1 (K (.exit 0) ⟨[], [], [], [], []⟩) (fun y0 => K .ret ⟨[(4, .c (.bool y0))], [], [], [], []⟩)
theorem Z27.l4_ok : ∀ n v K, Z27.l4.u n v K -> loopM C X0 n 69 4 (Z27.l4.s.fill v) K :=
 loop_tell hX (fn := Try.f69) (c := bodyOf Try.f69) (a := loopOf Try.f69 4) (li := liOf (C.fi 69).loops 4) (by kernel_rfl) (by kernel_rfl) (of_decide_eq_true rfl) (by kernel_rfl) (by kernel_rfl) (T := Z27.l4.s) (u := Z27.l4.u) (fun _ _ h => h) (call := D65) (lp := fun n => noL) (D65_ok hX) (fun n => noL_ok) (fun n v K => by kernel_rfl)
theorem Z27_ok : ∀ n v K, Z27.u n v K -> callM C X0 n 69 (fillA Z27.a v) K :=
 call_tell hX (fn := Try.f69) (c := bodyOf Try.f69) (by kernel_rfl) (by kernel_rfl) (A := Z27.a) (u := Z27.u) (fun _ _ h => h) (call := D65) (lp := fun n => orL 4 Z27.l4.s (Z27.l4.u n) noL) (D65_ok hX) (fun n => (orL_ok (Z27.l4_ok hX n) noL_ok)) (fun n v K => by kernel_rfl)
def D66 (n : Nat) : CallF := orC 69 Z27.a (Z27.u n) (D65 n)
theorem D66_ok : ∀ n g a K, D66 n g a K -> callM C X0 n g a K := fun n => orC_ok (Z27_ok hX n) (D65_ok hX n)
end
end Go.Vsi
end

section
set_option linter.unusedVariables false
namespace Go.Vsi
open Go.Proofs
section
variable {X0 : CallF} (hX : CallF.Mono X0)
include hX
abbrev Z5.a : List TS := [.c (.o (.dat 167 Y21)), .c (.o (.dat 102 Y15)), .c (.o (.dat 102 Y15))]
def Z5.u (n : Nat) (v : VA Z5.a) (K : RES -> Prop) : Prop := Z5.c n v.1 v.2.1 v.2.2.1 (fun r0 r1 => K ⟨.tup [.c (.row ⟨102, .prod (.int .i64) Y16, r0, 1, none⟩), .c (.bool r1)], []⟩)
theorem Z5_ok : ∀ n v K, Z5.u n v K -> callM C X0 n 70 (fillA Z5.a v) K :=
 call_tell hX (fn := Try.f70) (c := bodyOf Try.f70) (by kernel_rfl) (by kernel_rfl) (A := Z5.a) (u := Z5.u) (fun _ _ h => h) (call := D66) (lp := fun n => noL) (D66_ok hX) (fun n => noL_ok) (fun n v K => by kernel_rfl)
def D67 (n : Nat) : CallF := orC 70 Z5.a (Z5.u n) (D66 n)
theorem D67_ok : ∀ n g a K, D67 n g a K -> callM C X0 n g a K := fun n => orC_ok (Z5_ok hX n) (D66_ok hX n)
abbrev laws_FnFlatParts.a : List TS := [.c (.o (.dat 5 (.int .u8)))]
def laws_FnFlatParts.u (n : Nat) (v : VA laws_FnFlatParts.a) (K : RES -> Prop) : Prop := laws_FnFlatParts.c n v.1 (fun r0 => K ⟨.c (.bool r0), []⟩)
abbrev laws_FnFlatParts.l12.s : ST := ⟨[(3, .c (.o (.own 672))), (4, .c (.o (.own 673))), (5, .c (.o (.int .i64))), (9, .c (.o (.own 1184))), (11, .c (.o (.int .i64))), (12, .c (.o (.int .i64)))], [⟨672, 167, .prod .str (.int .i64), 0⟩, ⟨673, 102, .prod (.int .i64) Y16, 1⟩, ⟨1184, 102, .prod (.int .i64) Y16, 99⟩], [], [], []⟩
def laws_FnFlatParts.l12.u (n : Nat) (v : laws_FnFlatParts.l12.s.V) (K : X -> St -> Prop) : Prop := laws_FnFlatParts.l12 n v.1.2.2.1 v.2.1.1 v.2.1.2.1 v.2.1.2.2.1 v.1.2.2.2.2.1 v.1.2.2.2.2.2.1 (fun y0 y1 y2 y3 y4 => K (.exit 0) ⟨[(3, .c (.own 672)), (4, .c (.own 673)), (5, .c (.int .i64 y0)), (9, .c (.own 1184)), (11, .c (.int .i64 y1))], [(672, ⟨167, .prod .str (.int .i64), y2, 0, none⟩), (673, ⟨102, .prod (.int .i64) Y16, y3, 1, none⟩), (1184, ⟨102, .prod (.int .i64) Y16, y4, 99, none⟩)], [], [], []⟩)
theorem laws_FnFlatParts.l12_ok : ∀ n v K, laws_FnFlatParts.l12.u n v K -> loopM C X0 n 13 12 (laws_FnFlatParts.l12.s.fill v) K :=
 loop_tell hX (fn := Try.f13) (c := bodyOf Try.f13) (a := loopOf Try.f13 12) (li := liOf (C.fi 13).loops 12) (by kernel_rfl) (by kernel_rfl) (of_decide_eq_true rfl) (by kernel_rfl) (by kernel_rfl) (T := laws_FnFlatParts.l12.s) (u := laws_FnFlatParts.l12.u) (fun _ _ h => h) (call := D67) (lp := fun n => noL) (D67_ok hX) (fun n => noL_ok) (fun n v K => by kernel_rfl)
theorem laws_FnFlatParts_ok : ∀ n v K, laws_FnFlatParts.u n v K -> callM C X0 n 13 (fillA laws_FnFlatParts.a v) K :=
 call_tell hX (fn := Try.f13) (c := bodyOf Try.f13) (by kernel_rfl) (by kernel_rfl) (A := laws_FnFlatParts.a) (u := laws_FnFlatParts.u) (fun _ _ h => h) (call := D67) (lp := fun n => orL 12 laws_FnFlatParts.l12.s (laws_FnFlatParts.l12.u n) noL) (D67_ok hX) (fun n => (orL_ok (laws_FnFlatParts.l12_ok hX n) noL_ok)) (fun n v K => by kernel_rfl)
def D68 (n : Nat) : CallF := orC 13 laws_FnFlatParts.a (laws_FnFlatParts.u n) (D67 n)
theorem D68_ok : ∀ n g a K, D68 n g a K -> callM C X0 n g a K := fun n => orC_ok (laws_FnFlatParts_ok hX n) (D67_ok hX n)
end
end Go.Vsi
end
