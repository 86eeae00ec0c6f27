/- Each told function is what the machine comes to. No statement is proved here. -/
import Derived.Test.YtbpgfmandlhnaaaM3
import Derived.Test.YtbpgfmandlhnaaaA1
import Derived.Test.YtbpgfmandlhnaaaProg
import Derived.KernelRfl

section
set_option linter.unusedVariables false
namespace Go.Vsi
open Go.Proofs
def tis : List (Nat × TI) := [
(1, ⟨false, 1, 8, [.undef], none, none, []⟩),
(2, ⟨false, 1, 8, [.int .i64 0], some (.int .i64), none, []⟩),
(3, ⟨false, 1, 8, [.int .i64 0], some (.int .i64), none, []⟩),
(4, ⟨false, 1, 1, [.bool false], some (.bool), none, []⟩),
(5, ⟨false, 1, 1, [.int .u8 0], some (.int .u8), none, []⟩),
(6, ⟨false, 1, 1, [.int .u8 0], some (.int .u8), none, []⟩),
(7, ⟨true, 4, 24, [.int .i64 0, .int .i64 0, .bool false, .int .u8 0], some (.prod (.int .i64) (.prod (.int .i64) (.prod .bool (.int .u8)))), none, [(0, 2), (1, 3), (2, 4), (3, 6)]⟩),
(8, ⟨true, 4, 24, [.int .i64 0, .int .i64 0, .bool false, .int .u8 0], some (.prod (.int .i64) (.prod (.int .i64) (.prod .bool (.int .u8)))), none, [(0, 2), (1, 3), (2, 4), (3, 6)]⟩),
(9, ⟨false, 1, 16, [.str []], some (.str), none, []⟩),
(10, ⟨false, 1, 16, [.str []], some (.str), none, []⟩),
(11, ⟨false, 1, 16, [.str []], some (.str), none, []⟩),
(12, ⟨false, 1, 8, [.int .u64 0], some (.int .u64), none, []⟩),
(13, ⟨true, 2, 24, [.str [], .int .u64 0], some (.prod .str (.int .u64)), none, [(0, 9), (1, 12)]⟩),
(14, ⟨true, 2, 24, [.str [], .int .u64 0], some (.prod .str (.int .u64)), none, [(0, 9), (1, 12)]⟩),
(15, ⟨false, 1, 8, [.undef], none, none, []⟩),
(16, ⟨false, 1, 8, [.undef], none, none, []⟩),
(17, ⟨false, 1, 8, [.undef], none, none, []⟩),
(18, ⟨true, 1, 8, [.undef], none, none, [(0, 17)]⟩),
(19, ⟨true, 1, 8, [.undef], none, none, [(0, 17)]⟩),
(20, ⟨false, 1, 16, [.undef], none, none, []⟩),
(21, ⟨false, 1, 4, [.int .i32 0], some (.int .i32), none, []⟩),
(22, ⟨false, 1, 24, [.emp 5 (.int .u8)], some (.sl 5 (.int .u8)), some 5, []⟩),
(23, ⟨false, 1, 8, [.undef], none, none, []⟩),
(24, ⟨false, 1, 24, [.emp 112 (.prod .str (.int .i64))], some (.sl 112 (.prod .str (.int .i64))), some 112, []⟩),
(25, ⟨false, 1, 24, [.emp 44 (.prod (.int .i64) (.sl 90 (.int .u64)))], some (.sl 44 (.prod (.int .i64) (.sl 90 (.int .u64)))), some 44, []⟩),
(26, ⟨false, 1, 24, [.emp 79 (.prod (.int .i64) (.prod (.int .i64) (.prod (.int .i64) (.prod (.int .i64) (.prod (.int .i64) (.prod (.sl 90 (.int .u64)) (.sl 2 (.int .i64))))))))], some (.sl 79 (.prod (.int .i64) (.prod (.int .i64) (.prod (.int .i64) (.prod (.int .i64) (.prod (.int .i64) (.prod (.sl 90 (.int .u64)) (.sl 2 (.int .i64))))))))), some 79, []⟩),
(27, ⟨true, 1, 24, [.emp 79 (.prod (.int .i64) (.prod (.int .i64) (.prod (.int .i64) (.prod (.int .i64) (.prod (.int .i64) (.prod (.sl 90 (.int .u64)) (.sl 2 (.int .i64))))))))], some (.sl 79 (.prod (.int .i64) (.prod (.int .i64) (.prod (.int .i64) (.prod (.int .i64) (.prod (.int .i64) (.prod (.sl 90 (.int .u64)) (.sl 2 (.int .i64))))))))), none, [(0, 26)]⟩),
(28, ⟨true, 1, 24, [.emp 79 (.prod (.int .i64) (.prod (.int .i64) (.prod (.int .i64) (.prod (.int .i64) (.prod (.int .i64) (.prod (.sl 90 (.int .u64)) (.sl 2 (.int .i64))))))))], some (.sl 79 (.prod (.int .i64) (.prod (.int .i64) (.prod (.int .i64) (.prod (.int .i64) (.prod (.int .i64) (.prod (.sl 90 (.int .u64)) (.sl 2 (.int .i64))))))))), none, [(0, 26)]⟩),
(29, ⟨true, 4, 64, [.int .i64 0, .bool false, .emp 79 (.prod (.int .i64) (.prod (.int .i64) (.prod (.int .i64) (.prod (.int .i64) (.prod (.int .i64) (.prod (.sl 90 (.int .u64)) (.sl 2 (.int .i64)))))))), .emp 79 (.prod (.int .i64) (.prod (.int .i64) (.prod (.int .i64) (.prod (.int .i64) (.prod (.int .i64) (.prod (.sl 90 (.int .u64)) (.sl 2 (.int .i64))))))))], some (.prod (.int .i64) (.prod .bool (.prod (.sl 79 (.prod (.int .i64) (.prod (.int .i64) (.prod (.int .i64) (.prod (.int .i64) (.prod (.int .i64) (.prod (.sl 90 (.int .u64)) (.sl 2 (.int .i64))))))))) (.sl 79 (.prod (.int .i64) (.prod (.int .i64) (.prod (.int .i64) (.prod (.int .i64) (.prod (.int .i64) (.prod (.sl 90 (.int .u64)) (.sl 2 (.int .i64)))))))))))), none, [(0, 2), (1, 4), (2, 28), (3, 28)]⟩),
(30, ⟨true, 4, 64, [.int .i64 0, .bool false, .emp 79 (.prod (.int .i64) (.prod (.int .i64) (.prod (.int .i64) (.prod (.int .i64) (.prod (.int .i64) (.prod (.sl 90 (.int .u64)) (.sl 2 (.int .i64)))))))), .emp 79 (.prod (.int .i64) (.prod (.int .i64) (.prod (.int .i64) (.prod (.int .i64) (.prod (.int .i64) (.prod (.sl 90 (.int .u64)) (.sl 2 (.int .i64))))))))], some (.prod (.int .i64) (.prod .bool (.prod (.sl 79 (.prod (.int .i64) (.prod (.int .i64) (.prod (.int .i64) (.prod (.int .i64) (.prod (.int .i64) (.prod (.sl 90 (.int .u64)) (.sl 2 (.int .i64))))))))) (.sl 79 (.prod (.int .i64) (.prod (.int .i64) (.prod (.int .i64) (.prod (.int .i64) (.prod (.int .i64) (.prod (.sl 90 (.int .u64)) (.sl 2 (.int .i64)))))))))))), none, [(0, 2), (1, 4), (2, 28), (3, 28)]⟩),
(32, ⟨false, 1, 8, [.undef], none, none, []⟩),
(34, ⟨false, 1, 8, [.undef], none, none, []⟩),
(35, ⟨false, 1, 8, [.undef], none, none, []⟩),
(36, ⟨false, 1, 24, [.emp 30 (.prod (.int .i64) (.prod .bool (.prod (.sl 79 (.prod (.int .i64) (.prod (.int .i64) (.prod (.int .i64) (.prod (.int .i64) (.prod (.int .i64) (.prod (.sl 90 (.int .u64)) (.sl 2 (.int .i64))))))))) (.sl 79 (.prod (.int .i64) (.prod (.int .i64) (.prod (.int .i64) (.prod (.int .i64) (.prod (.int .i64) (.prod (.sl 90 (.int .u64)) (.sl 2 (.int .i64))))))))))))], some (.sl 30 (.prod (.int .i64) (.prod .bool (.prod (.sl 79 (.prod (.int .i64) (.prod (.int .i64) (.prod (.int .i64) (.prod (.int .i64) (.prod (.int .i64) (.prod (.sl 90 (.int .u64)) (.sl 2 (.int .i64))))))))) (.sl 79 (.prod (.int .i64) (.prod (.int .i64) (.prod (.int .i64) (.prod (.int .i64) (.prod (.int .i64) (.prod (.sl 90 (.int .u64)) (.sl 2 (.int .i64))))))))))))), some 30, []⟩),
(38, ⟨false, 1, 8, [.undef], none, none, []⟩),
(39, ⟨false, 1, 24, [.emp 86 (.prod (.int .i64) (.prod (.int .i64) (.prod (.int .i64) (.prod (.int .i64) (.sl 90 (.int .u64))))))], some (.sl 86 (.prod (.int .i64) (.prod (.int .i64) (.prod (.int .i64) (.prod (.int .i64) (.sl 90 (.int .u64))))))), some 86, []⟩),
(41, ⟨false, 1, 8, [.undef], none, none, []⟩),
(42, ⟨false, 1, 24, [.emp 90 (.int .u64)], some (.sl 90 (.int .u64)), some 90, []⟩),
(43, ⟨true, 2, 32, [.int .i64 0, .emp 90 (.int .u64)], some (.prod (.int .i64) (.sl 90 (.int .u64))), none, [(0, 2), (1, 42)]⟩),
(44, ⟨true, 2, 32, [.int .i64 0, .emp 90 (.int .u64)], some (.prod (.int .i64) (.sl 90 (.int .u64))), none, [(0, 2), (1, 42)]⟩),
(46, ⟨false, 1, 8, [.undef], none, none, []⟩),
(47, ⟨false, 1, 8, [.undef], none, none, []⟩),
(48, ⟨false, 1, 8, [.undef], none, none, []⟩),
(49, ⟨false, 1, 8, [.undef], none, none, []⟩),
(51, ⟨false, 1, 8, [.undef], none, none, []⟩),
(52, ⟨false, 1, 24, [.emp 2 (.int .i64)], some (.sl 2 (.int .i64)), some 2, []⟩),
(54, ⟨false, 1, 8, [.undef], none, none, []⟩),
(55, ⟨false, 1, 8, [.undef], none, none, []⟩),
(57, ⟨false, 1, 8, [.undef], none, none, []⟩),
(58, ⟨false, 1, 8, [.undef], none, none, []⟩),
(60, ⟨false, 1, 8, [.undef], none, none, []⟩),
(61, ⟨false, 1, 8, [.undef], none, none, []⟩),
(62, ⟨false, 1, 8, [.undef], none, none, []⟩),
(63, ⟨false, 1, 8, [.undef], none, none, []⟩),
(64, ⟨false, 1, 8, [.undef], none, none, []⟩),
(65, ⟨false, 1, 8, [.undef], none, none, []⟩),
(66, ⟨false, 1, 8, [.undef], none, none, []⟩),
(67, ⟨false, 1, 8, [.undef], none, none, []⟩),
(68, ⟨false, 1, 8, [.undef], none, none, []⟩),
(69, ⟨false, 1, 8, [.undef], none, none, []⟩),
(70, ⟨false, 1, 8, [.undef], none, none, []⟩),
(71, ⟨false, 1, 8, [.undef], none, none, []⟩),
(72, ⟨false, 1, 8, [.undef], none, none, []⟩),
(73, ⟨false, 1, 8, [.undef], none, none, []⟩),
(74, ⟨false, 1, 8, [.undef], none, none, []⟩),
(75, ⟨false, 1, 8, [.undef], none, none, []⟩),
(76, ⟨false, 1, 8, [.undef], none, none, []⟩),
(77, ⟨false, 1, 24, [.emp 80 (.sl 122 (.prod (.int .i64) (.int .i64)))], some (.sl 80 (.sl 122 (.prod (.int .i64) (.int .i64)))), some 80, []⟩),
(78, ⟨true, 7, 88, [.int .i64 0, .int .i64 0, .int .i64 0, .int .i64 0, .int .i64 0, .emp 90 (.int .u64), .emp 2 (.int .i64)], some (.prod (.int .i64) (.prod (.int .i64) (.prod (.int .i64) (.prod (.int .i64) (.prod (.int .i64) (.prod (.sl 90 (.int .u64)) (.sl 2 (.int .i64)))))))), none, [(0, 2), (1, 2), (2, 2), (3, 2), (4, 44), (6, 52)]⟩),
(79, ⟨true, 7, 88, [.int .i64 0, .int .i64 0, .int .i64 0, .int .i64 0, .int .i64 0, .emp 90 (.int .u64), .emp 2 (.int .i64)], some (.prod (.int .i64) (.prod (.int .i64) (.prod (.int .i64) (.prod (.int .i64) (.prod (.int .i64) (.prod (.sl 90 (.int .u64)) (.sl 2 (.int .i64)))))))), none, [(0, 2), (1, 2), (2, 2), (3, 2), (4, 44), (6, 52)]⟩),
(80, ⟨false, 1, 24, [.emp 122 (.prod (.int .i64) (.int .i64))], some (.sl 122 (.prod (.int .i64) (.int .i64))), some 122, []⟩),
(81, ⟨false, 1, 8, [.undef], none, none, []⟩),
(82, ⟨false, 1, 8, [.undef], none, none, []⟩),
(83, ⟨false, 1, 8, [.undef], none, none, []⟩),
(84, ⟨false, 1, 8, [.undef], none, none, []⟩),
(85, ⟨true, 5, 56, [.int .i64 0, .int .i64 0, .int .i64 0, .int .i64 0, .emp 90 (.int .u64)], some (.prod (.int .i64) (.prod (.int .i64) (.prod (.int .i64) (.prod (.int .i64) (.sl 90 (.int .u64)))))), none, [(0, 2), (1, 2), (2, 2), (3, 44)]⟩),
(86, ⟨true, 5, 56, [.int .i64 0, .int .i64 0, .int .i64 0, .int .i64 0, .emp 90 (.int .u64)], some (.prod (.int .i64) (.prod (.int .i64) (.prod (.int .i64) (.prod (.int .i64) (.sl 90 (.int .u64)))))), none, [(0, 2), (1, 2), (2, 2), (3, 44)]⟩),
(87, ⟨false, 1, 8, [.undef], none, none, []⟩),
(88, ⟨false, 1, 8, [.undef], none, none, []⟩),
(89, ⟨false, 1, 8, [.undef], none, none, []⟩),
(90, ⟨false, 1, 8, [.int .u64 0], some (.int .u64), none, []⟩),
(92, ⟨false, 1, 8, [.undef], none, none, []⟩),
(93, ⟨false, 1, 8, [.undef], none, none, []⟩),
(94, ⟨false, 1, 8, [.undef], none, none, []⟩),
(95, ⟨false, 1, 8, [.undef], none, none, []⟩),
(96, ⟨false, 1, 8, [.undef], none, none, []⟩),
(97, ⟨false, 1, 8, [.undef], none, none, []⟩),
(98, ⟨false, 1, 8, [.undef], none, none, []⟩),
(99, ⟨false, 1, 8, [.int .u64 0], some (.int .u64), none, []⟩),
(100, ⟨false, 1, 8, [.undef], none, none, []⟩),
(101, ⟨false, 1, 8, [.undef], none, none, []⟩),
(102, ⟨false, 1, 8, [.undef], none, none, []⟩),
(103, ⟨false, 1, 8, [.undef], none, none, []⟩),
(104, ⟨false, 1, 8, [.undef], none, none, []⟩),
(105, ⟨false, 1, 8, [.undef], none, none, []⟩),
(106, ⟨true, 2, 32, [.emp 5 (.int .u8), .int .i64 0], some (.prod (.sl 5 (.int .u8)) (.int .i64)), none, [(0, 22), (1, 3)]⟩),
(107, ⟨true, 2, 32, [.emp 5 (.int .u8), .int .i64 0], some (.prod (.sl 5 (.int .u8)) (.int .i64)), none, [(0, 22), (1, 3)]⟩),
(108, ⟨false, 1, 8, [.undef], none, none, []⟩),
(109, ⟨false, 1, 8, [.undef], none, none, []⟩),
(110, ⟨false, 1, 8, [.undef], none, none, []⟩),
(111, ⟨true, 2, 24, [.str [], .int .i64 0], some (.prod .str (.int .i64)), none, [(0, 9), (1, 2)]⟩),
(112, ⟨true, 2, 24, [.str [], .int .i64 0], some (.prod .str (.int .i64)), none, [(0, 9), (1, 2)]⟩),
(113, ⟨false, 1, 8, [.undef], none, none, []⟩),
(114, ⟨false, 1, 8, [.undef], none, none, []⟩),
(115, ⟨false, 1, 8, [.undef], none, none, []⟩),
(116, ⟨false, 1, 8, [.undef], none, none, []⟩),
(117, ⟨false, 1, 8, [.undef], none, none, []⟩),
(118, ⟨false, 1, 8, [.undef], none, none, []⟩),
(119, ⟨false, 1, 8, [.undef], none, none, []⟩),
(120, ⟨false, 1, 8, [.undef], none, none, []⟩),
(121, ⟨true, 2, 16, [.int .i64 0, .int .i64 0], some (.prod (.int .i64) (.int .i64)), none, [(0, 2), (1, 2)]⟩),
(122, ⟨true, 2, 16, [.int .i64 0, .int .i64 0], some (.prod (.int .i64) (.int .i64)), none, [(0, 2), (1, 2)]⟩),
(123, ⟨false, 1, 24, [.emp 39 (.sl 86 (.prod (.int .i64) (.prod (.int .i64) (.prod (.int .i64) (.prod (.int .i64) (.sl 90 (.int .u64)))))))], some (.sl 39 (.sl 86 (.prod (.int .i64) (.prod (.int .i64) (.prod (.int .i64) (.prod (.int .i64) (.sl 90 (.int .u64)))))))), some 39, []⟩),
(124, ⟨false, 1, 8, [.undef], none, none, []⟩),
(125, ⟨false, 1, 8, [.undef], none, none, []⟩),
(126, ⟨false, 1, 8, [.undef], none, none, []⟩),
(127, ⟨false, 1, 8, [.undef], none, none, []⟩),
(128, ⟨false, 1, 8, [.undef], none, none, []⟩),
(129, ⟨false, 1, 8, [.undef], none, none, []⟩),
(130, ⟨false, 1, 8, [.undef], none, none, []⟩),
(131, ⟨false, 1, 8, [.undef], none, none, []⟩),
(132, ⟨false, 1, 8, [.undef], none, none, []⟩),
(133, ⟨false, 1, 8, [.undef], none, none, []⟩),
(134, ⟨false, 1, 8, [.undef], none, none, []⟩),
(135, ⟨false, 1, 8, [.undef], none, none, []⟩),
(137, ⟨false, 1, 8, [.undef], none, none, []⟩),
(138, ⟨false, 1, 8, [.undef], none, none, []⟩),
(139, ⟨false, 1, 8, [.undef], none, none, []⟩),
(140, ⟨false, 1, 8, [.undef], none, none, []⟩),
(141, ⟨false, 1, 8, [.undef], none, none, []⟩),
(142, ⟨false, 1, 8, [.undef], none, none, []⟩),
(143, ⟨false, 1, 8, [.undef], none, none, []⟩),
(144, ⟨false, 1, 8, [.undef], none, none, []⟩),
(145, ⟨false, 1, 8, [.undef], none, none, []⟩),
(146, ⟨false, 1, 8, [.undef], none, none, []⟩),
(147, ⟨false, 1, 8, [.undef], none, none, []⟩),
(148, ⟨false, 1, 24, [.emp 4 .bool], some (.sl 4 .bool), some 4, []⟩),
(149, ⟨false, 1, 8, [.undef], none, none, []⟩),
(150, ⟨false, 1, 8, [.undef], none, none, []⟩),
(151, ⟨false, 1, 8, [.undef], none, none, []⟩),
(152, ⟨false, 1, 8, [.undef], none, none, []⟩),
(153, ⟨false, 1, 8, [.undef], none, none, []⟩),
(154, ⟨false, 1, 8, [.undef], none, none, []⟩),
(155, ⟨false, 1, 8, [.undef], none, none, []⟩),
(156, ⟨false, 1, 8, [.undef], none, none, []⟩),
(157, ⟨false, 1, 8, [.undef], none, none, []⟩),
(158, ⟨false, 1, 8, [.undef], none, none, []⟩),
(159, ⟨false, 1, 8, [.undef], none, none, []⟩),
(160, ⟨false, 1, 8, [.undef], none, none, []⟩),
(161, ⟨false, 1, 8, [.undef], none, none, []⟩),
(162, ⟨false, 1, 8, [.undef], none, none, []⟩),
(163, ⟨false, 1, 8, [.undef], none, none, []⟩),
(164, ⟨false, 1, 8, [.undef], none, none, []⟩),
(165, ⟨false, 1, 8, [.undef], none, none, []⟩),
(166, ⟨false, 1, 8, [.undef], none, none, []⟩),
(167, ⟨false, 1, 8, [.undef], none, none, []⟩),
(168, ⟨true, 4, 40, [.undef, .undef, .undef, .undef], none, none, [(0, 17), (1, 17), (2, 17), (3, 9)]⟩),
(169, ⟨true, 4, 40, [.undef, .undef, .undef, .undef], none, none, [(0, 17), (1, 17), (2, 17), (3, 9)]⟩),
(170, ⟨true, 0, 0, [], none, none, []⟩),
(171, ⟨true, 0, 0, [], none, none, [(0, 170)]⟩),
(172, ⟨true, 0, 0, [], none, none, [(0, 170)]⟩),
(173, ⟨false, 1, 4, [.int .u32 0], some (.int .u32), none, []⟩),
(174, ⟨false, 1, 1, [.int .u8 0], some (.int .u8), none, []⟩),
(175, ⟨false, 1, 1, [.int .u8 0], some (.int .u8), none, []⟩),
(176, ⟨false, 1, 8, [.undef], none, none, []⟩),
(177, ⟨false, 1, 8, [.undef], none, none, []⟩),
(178, ⟨false, 1, 4, [.int .i32 0], some (.int .i32), none, []⟩),
(179, ⟨false, 1, 4, [.int .i32 0], some (.int .i32), none, []⟩),
(180, ⟨true, 11, 48, [.undef, .undef, .undef, .undef, .undef, .undef, .undef, .undef, .undef, .undef, .undef], none, none, [(0, 12), (1, 12), (2, 173), (3, 174), (4, 5), (5, 5), (6, 175), (7, 176), (8, 177), (9, 178), (10, 179)]⟩),
(181, ⟨true, 11, 48, [.undef, .undef, .undef, .undef, .undef, .undef, .undef, .undef, .undef, .undef, .undef], none, none, [(0, 12), (1, 12), (2, 173), (3, 174), (4, 5), (5, 5), (6, 175), (7, 176), (8, 177), (9, 178), (10, 179)]⟩),
(182, ⟨false, 1, 8, [.undef], none, none, []⟩)]
noncomputable def fns : List (Nat × Func) := [(3, Try.f3), (7, Try.f7), (8, Try.f8), (9, Try.f9), (10, Try.f10), (11, Try.f11), (28, Try.f28), (30, Try.f30), (31, Try.f31), (32, Try.f32), (33, Try.f33), (34, Try.f34), (35, Try.f35), (36, Try.f36), (37, Try.f37), (38, Try.f38), (39, Try.f39), (40, Try.f40), (41, Try.f41), (42, Try.f42), (43, Try.f43), (44, Try.f44), (49, Try.f49), (50, Try.f50), (52, Try.f52), (54, Try.f54), (55, Try.f55), (56, Try.f56), (71, Try.f71), (72, Try.f72), (73, Try.f73), (74, Try.f74), (75, Try.f75), (76, Try.f76), (77, Try.f77), (78, Try.f78), (79, Try.f79), (80, Try.f80), (81, Try.f81), (82, Try.f82), (83, Try.f83), (84, Try.f84), (85, Try.f85), (86, Try.f86), (87, Try.f87), (88, Try.f88), (89, Try.f89), (90, Try.f90), (93, Try.f93), (94, Try.f94), (95, Try.f95), (98, Try.f98), (99, Try.f99), (100, Try.f100), (108, Try.f108), (109, Try.f109), (110, Try.f110), (111, Try.f111), (112, Try.f112), (113, Try.f113), (114, Try.f114), (115, Try.f115), (116, Try.f116), (117, Try.f117), (118, Try.f118), (119, Try.f119), (120, Try.f120), (121, Try.f121), (122, Try.f122), (127, Try.f127), (128, Try.f128), (129, Try.f129), (130, Try.f130), (131, Try.f131), (132, Try.f132), (133, Try.f133), (134, Try.f134), (135, Try.f135), (136, Try.f136), (137, Try.f137), (138, Try.f138), (139, Try.f139), (140, Try.f140), (142, Try.f142), (143, Try.f143), (144, Try.f144)]
def fis : List (Nat × Fi) := [
(3, ⟨[], [], []⟩),
(7, ⟨[], [], []⟩),
(8, ⟨[], [some 0, none, none, none], []⟩),
(9, ⟨[], [], []⟩),
(10, ⟨[], [], []⟩),
(11, ⟨[], [], []⟩),
(28, ⟨[], [], []⟩),
(30, ⟨[], [], []⟩),
(31, ⟨[1], [], [(3, ⟨⟨[0, 3, 4], [(3, 0, .own 99)]⟩, [(0, ⟨[3], []⟩)], ⟨[2], []⟩⟩)]⟩),
(32, ⟨[1], [none], [(3, ⟨⟨[0, 1, 5, 6], [(5, 0, .own 99)]⟩, [(0, ⟨[0, 5], []⟩)], ⟨[4], []⟩⟩)]⟩),
(33, ⟨[1], [some 1], [(9, ⟨⟨[0, 7], [(7, 0, .own 1)]⟩, [(1, ⟨[7], []⟩)], ⟨[6], []⟩⟩)]⟩),
(34, ⟨[], [], [(4, ⟨⟨[0, 1, 5], []⟩, [(0, ⟨[], []⟩)], ⟨[4], []⟩⟩)]⟩),
(35, ⟨[], [], [(4, ⟨⟨[0, 1, 5], []⟩, [(0, ⟨[], []⟩)], ⟨[4], []⟩⟩)]⟩),
(36, ⟨[], [], [(4, ⟨⟨[2, 3, 5], []⟩, [(0, ⟨[], []⟩)], ⟨[4], []⟩⟩)]⟩),
(37, ⟨[], [], [(3, ⟨⟨[0, 3, 4, 5, 6], [(5, 0, .own 1)]⟩, [(0, ⟨[4, 5], []⟩)], ⟨[4], []⟩⟩), (7, ⟨⟨[0, 3, 4, 5, 6, 7, 8], [(5, 0, .own 1), (7, 0, .own 1)]⟩, [(2, ⟨[0, 3, 4, 5, 6, 7], []⟩)], ⟨[4], []⟩⟩)]⟩),
(38, ⟨[], [], []⟩),
(39, ⟨[], [], [(5, ⟨⟨[0, 5, 12, 13, 14], []⟩, [(0, ⟨[], []⟩)], ⟨[4], []⟩⟩)]⟩),
(40, ⟨[], [], []⟩),
(41, ⟨[], [], [(2, ⟨⟨[0, 1, 7, 8], []⟩, [(0, ⟨[], []⟩)], ⟨[4], []⟩⟩)]⟩),
(42, ⟨[], [], []⟩),
(43, ⟨[1], [], [(17, ⟨⟨[0, 6, 7], [(1000007, 0, .own 99)]⟩, [(1, ⟨[6, 7], []⟩)], ⟨[6], []⟩⟩), (21, ⟨⟨[1, 6, 7, 9], [(1000007, 0, .own 99)]⟩, [(3, ⟨[6, 7], []⟩)], ⟨[6], []⟩⟩), (1000027, ⟨⟨[6, 7], []⟩, [(1000000, ⟨[6], []⟩)], ⟨[6], []⟩⟩)]⟩),
(44, ⟨[], [], []⟩),
(49, ⟨[], [], []⟩),
(50, ⟨[], [], [(3, ⟨⟨[0, 3, 4, 5, 17, 18], [(5, 0, .own 1)]⟩, [(0, ⟨[4, 5], []⟩)], ⟨[4], []⟩⟩), (8, ⟨⟨[0, 3, 4, 5, 6, 7, 8, 17, 18, 34, 35, 36], [(5, 0, .own 1), (8, 0, .own 1)]⟩, [(2, ⟨[0, 3, 4, 5, 6, 7, 8, 17, 18], []⟩)], ⟨[4], []⟩⟩)]⟩),
(52, ⟨[], [], []⟩),
(54, ⟨[1], [], [(2, ⟨⟨[1, 3, 10, 11, 12], []⟩, [(0, ⟨[], []⟩)], ⟨[], []⟩⟩)]⟩),
(55, ⟨[], [], [(3, ⟨⟨[1, 2, 3, 6, 7, 15, 16], []⟩, [(0, ⟨[2, 6, 7], []⟩)], ⟨[6], []⟩⟩)]⟩),
(56, ⟨[], [], [(5, ⟨⟨[0, 3, 9, 10, 11], []⟩, [(0, ⟨[3], []⟩)], ⟨[2], []⟩⟩)]⟩),
(71, ⟨[], [], [(4, ⟨⟨[1, 3], []⟩, [(0, ⟨[], []⟩)], ⟨[2], []⟩⟩)]⟩),
(72, ⟨[], [], [(5, ⟨⟨[0, 2, 4, 5], []⟩, [(0, ⟨[2, 4], []⟩)], ⟨[2, 3], []⟩⟩)]⟩),
(73, ⟨[], [], [(3, ⟨⟨[1, 3, 4], [(3, 0, .own 99)]⟩, [(0, ⟨[3], []⟩)], ⟨[2], []⟩⟩)]⟩),
(74, ⟨[], [], []⟩),
(75, ⟨[1], [], []⟩),
(76, ⟨[1], [], []⟩),
(77, ⟨[1], [], []⟩),
(78, ⟨[1], [], [(5, ⟨⟨[1, 4, 5, 6, 7, 8], [(5, 0, .own 99)]⟩, [(0, ⟨[4, 5], []⟩)], ⟨[4], []⟩⟩)]⟩),
(79, ⟨[1], [], [(3, ⟨⟨[0, 3, 4], []⟩, [(0, ⟨[3], []⟩)], ⟨[2], []⟩⟩)]⟩),
(80, ⟨[1], [], []⟩),
(81, ⟨[1], [], [(4, ⟨⟨[0, 1, 7, 8, 9], [(7, 0, .own 99)]⟩, [(0, ⟨[7], []⟩)], ⟨[6], []⟩⟩)]⟩),
(82, ⟨[1], [], []⟩),
(83, ⟨[], [], [(5, ⟨⟨[0, 3, 4], []⟩, [(0, ⟨[3], []⟩)], ⟨[2], []⟩⟩), (10, ⟨⟨[0, 3, 4, 5], []⟩, [(2, ⟨[0, 3, 4], []⟩)], ⟨[2], []⟩⟩)]⟩),
(84, ⟨[], [], []⟩),
(85, ⟨[], [none], [(10, ⟨⟨[2, 6, 7, 8], [(1000007, 1, .dat)]⟩, [(1, ⟨[6, 7], []⟩)], ⟨[6], []⟩⟩)]⟩),
(86, ⟨[], [], [(4, ⟨⟨[0, 12, 13, 14], []⟩, [(0, ⟨[], []⟩)], ⟨[4], []⟩⟩)]⟩),
(87, ⟨[], [], []⟩),
(88, ⟨[], [], []⟩),
(89, ⟨[1], [], [(5, ⟨⟨[0, 1, 2, 6, 7, 8, 9, 10], [(7, 0, .own 99)]⟩, [(0, ⟨[1, 2, 6, 7, 8], [(7, 0, .own 99)]⟩)], ⟨[6], []⟩⟩), (1000034, ⟨⟨[0, 1, 2, 6, 7, 8, 9, 10, 13, 65, 117], []⟩, [(1000000, ⟨[0, 1, 2, 6, 7, 8, 9, 10, 13], []⟩)], ⟨[6], []⟩⟩)]⟩),
(90, ⟨[], [], [(7, ⟨⟨[0, 3, 5, 6, 7, 8], [(6, 0, .own 99)]⟩, [(0, ⟨[5, 6, 7], []⟩)], ⟨[4], []⟩⟩), (16, ⟨⟨[0, 3, 5, 6, 7, 8, 10], []⟩, [(2, ⟨[0, 3, 5, 6, 7, 8], []⟩)], ⟨[4], []⟩⟩), (20, ⟨⟨[5, 6, 7, 11], []⟩, [(4, ⟨[6], []⟩)], ⟨[4], []⟩⟩)]⟩),
(93, ⟨[], [], [(6, ⟨⟨[0, 3, 6, 7, 8, 29, 30], []⟩, [(0, ⟨[6, 7, 8], []⟩)], ⟨[4, 5], []⟩⟩), (13, ⟨⟨[0, 3, 6, 7, 8, 9, 10, 11, 29, 30, 52, 53, 54], []⟩, [(2, ⟨[0, 3, 6, 7, 8, 9, 10, 11, 29, 30], []⟩)], ⟨[4, 5], []⟩⟩)]⟩),
(94, ⟨[], [none], [(9, ⟨⟨[6, 7, 36, 37, 38], [(1000007, 1, .dat)]⟩, [(1, ⟨[6, 7], []⟩)], ⟨[6], []⟩⟩)]⟩),
(95, ⟨[], [], []⟩),
(98, ⟨[], [], []⟩),
(99, ⟨[], [], [(4, ⟨⟨[0, 3], []⟩, [(0, ⟨[], []⟩)], ⟨[2], []⟩⟩)]⟩),
(100, ⟨[], [], []⟩),
(108, ⟨[1], [], []⟩),
(109, ⟨[1], [], []⟩),
(110, ⟨[1], [], []⟩),
(111, ⟨[1], [], []⟩),
(112, ⟨[], [], [(4, ⟨⟨[0, 3], []⟩, [(0, ⟨[], []⟩)], ⟨[2], []⟩⟩)]⟩),
(113, ⟨[], [], []⟩),
(114, ⟨[], [], [(8, ⟨⟨[1, 6, 8, 9, 10], [(8, 0, .own 99)]⟩, [(0, ⟨[6, 8], []⟩)], ⟨[6, 7], []⟩⟩)]⟩),
(115, ⟨[], [], [(6, ⟨⟨[1, 4, 6, 7, 8], []⟩, [(0, ⟨[4, 7], []⟩)], ⟨[4, 5], []⟩⟩)]⟩),
(116, ⟨[], [], [(6, ⟨⟨[1, 4, 6, 7, 8], [(7, 0, .own 99)]⟩, [(0, ⟨[4, 7], []⟩)], ⟨[4, 5], []⟩⟩)]⟩),
(117, ⟨[], [], []⟩),
(118, ⟨[], [], [(4, ⟨⟨[0, 1, 12, 13], []⟩, [(0, ⟨[], []⟩)], ⟨[4], []⟩⟩)]⟩),
(119, ⟨[], [], [(5, ⟨⟨[0, 5, 6, 7], []⟩, [(0, ⟨[0, 5, 6], []⟩)], ⟨[4], []⟩⟩), (8, ⟨⟨[0, 5, 6, 7, 8], []⟩, [(2, ⟨[0, 5, 6, 7], []⟩)], ⟨[4], []⟩⟩), (13, ⟨⟨[0, 5, 6, 9, 10], [(9, 0, .own 99)]⟩, [(4, ⟨[9], []⟩)], ⟨[4], []⟩⟩), (18, ⟨⟨[0, 5, 6, 9, 10, 11, 12], []⟩, [(6, ⟨[0, 5, 6, 9, 10, 11], []⟩)], ⟨[4], []⟩⟩)]⟩),
(120, ⟨[2], [], []⟩),
(121, ⟨[], [], [(2, ⟨⟨[0, 2, 4, 7], []⟩, [(0, ⟨[0, 4], []⟩)], ⟨[6], []⟩⟩), (1000007, ⟨⟨[0, 4, 63], []⟩, [(1000000, ⟨[0, 4], []⟩)], ⟨[6], []⟩⟩), (1000008, ⟨⟨[0, 4], []⟩, [(1000000, ⟨[6], []⟩)], ⟨[6], []⟩⟩)]⟩),
(122, ⟨[], [], [(3, ⟨⟨[0, 2, 4, 7, 8], []⟩, [(0, ⟨[0, 4, 7], []⟩)], ⟨[6], []⟩⟩)]⟩),
(127, ⟨[], [], [(11, ⟨⟨[8, 80, 81, 82], []⟩, [(1, ⟨[8], []⟩)], ⟨[6], []⟩⟩), (1000005, ⟨⟨[0, 1, 2, 7, 17], []⟩, [(1000000, ⟨[], []⟩)], ⟨[6], []⟩⟩), (1000009, ⟨⟨[0, 2, 7, 69], []⟩, [(1000000, ⟨[], []⟩)], ⟨[6], []⟩⟩), (1000021, ⟨⟨[0, 7, 137], []⟩, [(1000000, ⟨[], []⟩)], ⟨[6], []⟩⟩)]⟩),
(128, ⟨[], [], [(1000002, ⟨⟨[0, 3], []⟩, [(1000000, ⟨[2], []⟩)], ⟨[2], []⟩⟩), (1000003, ⟨⟨[0, 52], []⟩, [(1000000, ⟨[0], []⟩)], ⟨[2], []⟩⟩)]⟩),
(129, ⟨[], [], []⟩),
(130, ⟨[], [], []⟩),
(131, ⟨[], [], []⟩),
(132, ⟨[], [], [(3, ⟨⟨[2, 4, 5, 12, 13], []⟩, [(0, ⟨[4, 5], []⟩)], ⟨[4], []⟩⟩)]⟩),
(133, ⟨[], [], [(5, ⟨⟨[3, 6, 7, 26, 27], []⟩, [(0, ⟨[6, 7], []⟩)], ⟨[6], []⟩⟩)]⟩),
(134, ⟨[], [], []⟩),
(135, ⟨[], [], [(2, ⟨⟨[0, 1, 7, 8], []⟩, [(0, ⟨[], []⟩)], ⟨[4], []⟩⟩)]⟩),
(136, ⟨[], [], []⟩),
(137, ⟨[], [], []⟩),
(138, ⟨[], [], []⟩),
(139, ⟨[], [], []⟩),
(140, ⟨[], [], []⟩),
(142, ⟨[], [], [(2, ⟨⟨[0, 1, 7, 8], []⟩, [(0, ⟨[], []⟩)], ⟨[4], []⟩⟩)]⟩),
(143, ⟨[], [], []⟩),
(144, ⟨[1], [], []⟩)]
def fiF (f : Nat) : Fi := (look f fis).getD ⟨[], [], []⟩
noncomputable def C : Ctx := { ti := fun t => look t tis, fs := fun f => look f fns, fi := fiF }
def bodyOf (f : Func) : Code := f.body.getD .skip
def loopOf (f : Func) (k : Nat) : Code := (findLoop k (bodyOf f)).getD .skip
def cutOf (f : Func) (k : Nat) : Code := (findCut k (bodyOf f)).getD .skip
def liOf (l : List (Nat × Li)) (k : Nat) : Li := (look k l).getD ⟨⟨[], []⟩, [], ⟨[], []⟩⟩
theorem tis_ok : (tis.all fun x => tiB Try.prog x.1 x.2) = true := by kernel_rfl
theorem fns_all : (fns.all fun x => fnB (fiF x.1) x.2) = true := by kernel_rfl
theorem fnp (f : Nat) (x : Func) (r : List (Nat × Func)) (h : Try.prog.funcs[f]? = some x) (hr : ∀ y ∈ r, Try.prog.funcs[y.1]? = some y.2) : ∀ y ∈ (f, x) :: r, Try.prog.funcs[y.1]? = some y.2 := List.forall_mem_cons.2 ⟨h, hr⟩
set_option maxRecDepth 100000 in
theorem fns_prog : ∀ x ∈ fns, Try.prog.funcs[x.1]? = some x.2 := (fnp _ _ _ Try.func3
(fnp _ _ _ Try.func7
(fnp _ _ _ Try.func8
(fnp _ _ _ Try.func9
(fnp _ _ _ Try.func10
(fnp _ _ _ Try.func11
(fnp _ _ _ Try.func28
(fnp _ _ _ Try.func30
(fnp _ _ _ Try.func31
(fnp _ _ _ Try.func32
(fnp _ _ _ Try.func33
(fnp _ _ _ Try.func34
(fnp _ _ _ Try.func35
(fnp _ _ _ Try.func36
(fnp _ _ _ Try.func37
(fnp _ _ _ Try.func38
(fnp _ _ _ Try.func39
(fnp _ _ _ Try.func40
(fnp _ _ _ Try.func41
(fnp _ _ _ Try.func42
(fnp _ _ _ Try.func43
(fnp _ _ _ Try.func44
(fnp _ _ _ Try.func49
(fnp _ _ _ Try.func50
(fnp _ _ _ Try.func52
(fnp _ _ _ Try.func54
(fnp _ _ _ Try.func55
(fnp _ _ _ Try.func56
(fnp _ _ _ Try.func71
(fnp _ _ _ Try.func72
(fnp _ _ _ Try.func73
(fnp _ _ _ Try.func74
(fnp _ _ _ Try.func75
(fnp _ _ _ Try.func76
(fnp _ _ _ Try.func77
(fnp _ _ _ Try.func78
(fnp _ _ _ Try.func79
(fnp _ _ _ Try.func80
(fnp _ _ _ Try.func81
(fnp _ _ _ Try.func82
(fnp _ _ _ Try.func83
(fnp _ _ _ Try.func84
(fnp _ _ _ Try.func85
(fnp _ _ _ Try.func86
(fnp _ _ _ Try.func87
(fnp _ _ _ Try.func88
(fnp _ _ _ Try.func89
(fnp _ _ _ Try.func90
(fnp _ _ _ Try.func93
(fnp _ _ _ Try.func94
(fnp _ _ _ Try.func95
(fnp _ _ _ Try.func98
(fnp _ _ _ Try.func99
(fnp _ _ _ Try.func100
(fnp _ _ _ Try.func108
(fnp _ _ _ Try.func109
(fnp _ _ _ Try.func110
(fnp _ _ _ Try.func111
(fnp _ _ _ Try.func112
(fnp _ _ _ Try.func113
(fnp _ _ _ Try.func114
(fnp _ _ _ Try.func115
(fnp _ _ _ Try.func116
(fnp _ _ _ Try.func117
(fnp _ _ _ Try.func118
(fnp _ _ _ Try.func119
(fnp _ _ _ Try.func120
(fnp _ _ _ Try.func121
(fnp _ _ _ Try.func122
(fnp _ _ _ Try.func127
(fnp _ _ _ Try.func128
(fnp _ _ _ Try.func129
(fnp _ _ _ Try.func130
(fnp _ _ _ Try.func131
(fnp _ _ _ Try.func132
(fnp _ _ _ Try.func133
(fnp _ _ _ Try.func134
(fnp _ _ _ Try.func135
(fnp _ _ _ Try.func136
(fnp _ _ _ Try.func137
(fnp _ _ _ Try.func138
(fnp _ _ _ Try.func139
(fnp _ _ _ Try.func140
(fnp _ _ _ Try.func142
(fnp _ _ _ Try.func143
(fnp _ _ _ Try.func144
(fun _ h => by cases h)))))))))))))))))))))))))))))))))))))))))))))))))))))))))))))))))))))))))))))))))))))))
theorem C_ok : CtxOK Try.prog C := ctx_ok tis_ok fns_prog
theorem C_fns : FnsOK Try.prog C := Go.Vsi.fns_ok fns_all
theorem C_follows : Try.prog.follows .mixedOrders = true := by kernel_rfl
def D0 (n : Nat) : CallF := noC
theorem D0_ok {X0 : CallF} (hX : CallF.Mono X0) : ∀ n g a K, D0 n g a K → callM C X0 n g a K := fun n => noC_ok
end Go.Vsi
end

section
set_option linter.unusedVariables false
namespace Go.Vsi
open Go.Proofs
section
variable {X0 : CallF} (hX : CallF.Mono X0)
include hX
abbrev laws_big.a : List TS := [.c (.o (.dat 5 (.int .u8)))]
def laws_big.u (n : Nat) (v : VA laws_big.a) (K : RES → Prop) : Prop := laws_big.c n v.1 (fun r0 => K ⟨.c (.bool r0), []⟩)
theorem laws_big_ok : ∀ n v K, laws_big.u n v K → callM C X0 n 7 (fillA laws_big.a v) K :=
 call_tell hX (fn := Try.f7) (c := bodyOf Try.f7) (by kernel_rfl) (by kernel_rfl) (A := laws_big.a) (u := laws_big.u) (fun _ _ h => h) (call := D0) (lp := fun n => noL) (D0_ok hX) (fun n => noL_ok) (fun n v K => by kernel_rfl)
def D1 (n : Nat) : CallF := orC 7 laws_big.a (laws_big.u n) (D0 n)
theorem D1_ok : ∀ n g a K, D1 n g a K → callM C X0 n g a K := fun n => orC_ok (laws_big_ok hX n) (D0_ok hX n)
abbrev spec_l1Open.a : List TS := [.c (.o (.dat 5 (.int .u8)))]
def spec_l1Open.u (n : Nat) (v : VA spec_l1Open.a) (K : RES → Prop) : Prop := spec_l1Open.c n v.1 (fun r0 r1 => K ⟨.c (.boxr 107 [.dat 5 (.int .u8) r0, .int .i64 r1]), []⟩)
theorem spec_l1Open_ok : ∀ n v K, spec_l1Open.u n v K → callM C X0 n 30 (fillA spec_l1Open.a v) K :=
 call_tell hX (fn := Try.f30) (c := bodyOf Try.f30) (by kernel_rfl) (by kernel_rfl) (A := spec_l1Open.a) (u := spec_l1Open.u) (fun _ _ h => h) (call := D1) (lp := fun n => noL) (D1_ok hX) (fun n => noL_ok) (fun n v K => by kernel_rfl)
def D2 (n : Nat) : CallF := orC 30 spec_l1Open.a (spec_l1Open.u n) (D1 n)
theorem D2_ok : ∀ n g a K, D2 n g a K → callM C X0 n g a K := fun n => orC_ok (spec_l1Open_ok hX n) (D1_ok hX n)
abbrev spec_l1Rd_next.a : List TS := [.c (.boxr 107 [.dat 5 (.int .u8), .int .i64])]
def spec_l1Rd_next.u (n : Nat) (v : VA spec_l1Rd_next.a) (K : RES → Prop) : Prop := spec_l1Rd_next.c n v.1.1 v.1.2.1 (fun r0 r1 r2 => K ⟨.c (.int .i64 r0), [[.boxr 107 [.dat 5 (.int .u8) r1, .int .i64 r2]]]⟩)
theorem spec_l1Rd_next_ok : ∀ n v K, spec_l1Rd_next.u n v K → callM C X0 n 108 (fillA spec_l1Rd_next.a v) K :=
 call_tell hX (fn := Try.f108) (c := bodyOf Try.f108) (by kernel_rfl) (by kernel_rfl) (A := spec_l1Rd_next.a) (u := spec_l1Rd_next.u) (fun _ _ h => h) (call := D2) (lp := fun n => noL) (D2_ok hX) (fun n => noL_ok) (fun n v K => by kernel_rfl)
def D3 (n : Nat) : CallF := orC 108 spec_l1Rd_next.a (spec_l1Rd_next.u n) (D2 n)
theorem D3_ok : ∀ n g a K, D3 n g a K → callM C X0 n g a K := fun n => orC_ok (spec_l1Rd_next_ok hX n) (D2_ok hX n)
abbrev spec_l1Rd_below.a : List TS := [.c (.boxr 107 [.dat 5 (.int .u8), .int .i64]), .c (.o (.int .i64))]
def spec_l1Rd_below.u (n : Nat) (v : VA spec_l1Rd_below.a) (K : RES → Prop) : Prop := spec_l1Rd_below.c n v.1.1 v.1.2.1 v.2.1 (fun r0 r1 r2 => K ⟨.c (.int .i64 r0), [[.boxr 107 [.dat 5 (.int .u8) r1, .int .i64 r2]]]⟩)
theorem spec_l1Rd_below_ok : ∀ n v K, spec_l1Rd_below.u n v K → callM C X0 n 75 (fillA spec_l1Rd_below.a v) K :=
 call_tell hX (fn := Try.f75) (c := bodyOf Try.f75) (by kernel_rfl) (by kernel_rfl) (A := spec_l1Rd_below.a) (u := spec_l1Rd_below.u) (fun _ _ h => h) (call := D3) (lp := fun n => noL) (D3_ok hX) (fun n => noL_ok) (fun n v K => by kernel_rfl)
def D4 (n : Nat) : CallF := orC 75 spec_l1Rd_below.a (spec_l1Rd_below.u n) (D3 n)
theorem D4_ok : ∀ n g a K, D4 n g a K → callM C X0 n g a K := fun n => orC_ok (spec_l1Rd_below_ok hX n) (D3_ok hX n)
abbrev spec_l1Rd_once.a : List TS := [.c (.boxr 107 [.dat 5 (.int .u8), .int .i64]), .c (.o (.int .i64))]
def spec_l1Rd_once.u (n : Nat) (v : VA spec_l1Rd_once.a) (K : RES → Prop) : Prop := spec_l1Rd_once.c n v.1.1 v.1.2.1 v.2.1 (fun r0 r1 r2 => K ⟨.c (.bool r0), [[.boxr 107 [.dat 5 (.int .u8) r1, .int .i64 r2]]]⟩)
theorem spec_l1Rd_once_ok : ∀ n v K, spec_l1Rd_once.u n v K → callM C X0 n 76 (fillA spec_l1Rd_once.a v) K :=
 call_tell hX (fn := Try.f76) (c := bodyOf Try.f76) (by kernel_rfl) (by kernel_rfl) (A := spec_l1Rd_once.a) (u := spec_l1Rd_once.u) (fun _ _ h => h) (call := D4) (lp := fun n => noL) (D4_ok hX) (fun n => noL_ok) (fun n v K => by kernel_rfl)
def D5 (n : Nat) : CallF := orC 76 spec_l1Rd_once.a (spec_l1Rd_once.u n) (D4 n)
theorem D5_ok : ∀ n g a K, D5 n g a K → callM C X0 n g a K := fun n => orC_ok (spec_l1Rd_once_ok hX n) (D4_ok hX n)
abbrev spec_l1Rd_wide.a : List TS := [.c (.boxr 107 [.dat 5 (.int .u8), .int .i64])]
def spec_l1Rd_wide.u (n : Nat) (v : VA spec_l1Rd_wide.a) (K : RES → Prop) : Prop := spec_l1Rd_wide.c n v.1.1 v.1.2.1 (fun r0 r1 r2 => K ⟨.c (.int .i64 r0), [[.boxr 107 [.dat 5 (.int .u8) r1, .int .i64 r2]]]⟩)
theorem spec_l1Rd_wide_ok : ∀ n v K, spec_l1Rd_wide.u n v K → callM C X0 n 77 (fillA spec_l1Rd_wide.a v) K :=
 call_tell hX (fn := Try.f77) (c := bodyOf Try.f77) (by kernel_rfl) (by kernel_rfl) (A := spec_l1Rd_wide.a) (u := spec_l1Rd_wide.u) (fun _ _ h => h) (call := D5) (lp := fun n => noL) (D5_ok hX) (fun n => noL_ok) (fun n v K => by kernel_rfl)
def D6 (n : Nat) : CallF := orC 77 spec_l1Rd_wide.a (spec_l1Rd_wide.u n) (D5 n)
theorem D6_ok : ∀ n g a K, D6 n g a K → callM C X0 n g a K := fun n => orC_ok (spec_l1Rd_wide_ok hX n) (D5_ok hX n)
abbrev spec_l1Rd_decls.a : List TS := [.c (.boxr 107 [.dat 5 (.int .u8), .int .i64])]
def spec_l1Rd_decls.u (n : Nat) (v : VA spec_l1Rd_decls.a) (K : RES → Prop) : Prop := spec_l1Rd_decls.c n v.1.1 v.1.2.1 (fun r0 r1 r2 => K ⟨.c (.row ⟨112, .prod .str (.int .i64), r0, 99, none⟩), [[.boxr 107 [.dat 5 (.int .u8) r1, .int .i64 r2]]]⟩)
abbrev spec_l1Rd_decls.l3.s : ST := ⟨[(0, .c (.o (.pbox 0 0))), (3, .c (.o (.own 96))), (4, .c (.o (.int .i64)))], [⟨96, 112, .prod .str (.int .i64), 99⟩], [⟨0, 107, [.o (.dat 5 (.int .u8)), .o (.int .i64)], false⟩], [], [0]⟩
def spec_l1Rd_decls.l3.u (n : Nat) (v : spec_l1Rd_decls.l3.s.V) (K : X → St → Prop) : Prop := spec_l1Rd_decls.l3 n v.1.2.2.1 v.2.1.1 v.2.2.1.1 v.2.2.1.2.1 (fun y0 y1 y2 => K (.exit 0) ⟨[(3, .c (.own 96))], [(96, ⟨112, .prod .str (.int .i64), y0, 99, none⟩)], [(0, ⟨107, [.dat 5 (.int .u8) y1, .int .i64 y2], false⟩)], [], [0]⟩)
theorem spec_l1Rd_decls.l3_ok : ∀ n v K, spec_l1Rd_decls.l3.u n v K → loopM C X0 n 31 3 (spec_l1Rd_decls.l3.s.fill v) K :=
 loop_tell hX (fn := Try.f31) (c := bodyOf Try.f31) (a := loopOf Try.f31 3) (li := liOf (C.fi 31).loops 3) (by kernel_rfl) (by kernel_rfl) (of_decide_eq_true rfl) (by kernel_rfl) (by kernel_rfl) (T := spec_l1Rd_decls.l3.s) (u := spec_l1Rd_decls.l3.u) (fun _ _ h => h) (call := D6) (lp := fun n => noL) (D6_ok hX) (fun n => noL_ok) (fun n v K => by kernel_rfl)
theorem spec_l1Rd_decls_ok : ∀ n v K, spec_l1Rd_decls.u n v K → callM C X0 n 31 (fillA spec_l1Rd_decls.a v) K :=
 call_tell hX (fn := Try.f31) (c := bodyOf Try.f31) (by kernel_rfl) (by kernel_rfl) (A := spec_l1Rd_decls.a) (u := spec_l1Rd_decls.u) (fun _ _ h => h) (call := D6) (lp := fun n => orL 3 spec_l1Rd_decls.l3.s (spec_l1Rd_decls.l3.u n) noL) (D6_ok hX) (fun n => (orL_ok (spec_l1Rd_decls.l3_ok hX n) noL_ok)) (fun n v K => by kernel_rfl)
def D7 (n : Nat) : CallF := orC 31 spec_l1Rd_decls.a (spec_l1Rd_decls.u n) (D6 n)
theorem D7_ok : ∀ n g a K, D7 n g a K → callM C X0 n g a K := fun n => orC_ok (spec_l1Rd_decls_ok hX n) (D6_ok hX n)
abbrev spec_l1Rd_word.a : List TS := [.c (.boxr 107 [.dat 5 (.int .u8), .int .i64])]
def spec_l1Rd_word.u (n : Nat) (v : VA spec_l1Rd_word.a) (K : RES → Prop) : Prop := spec_l1Rd_word.c n v.1.1 v.1.2.1 (fun r0 r1 r2 => K ⟨.c (.int .u64 r0), [[.boxr 107 [.dat 5 (.int .u8) r1, .int .i64 r2]]]⟩)
abbrev spec_l1Rd_word.l3.s : ST := ⟨[(0, .c (.o (.pbox 0 0))), (3, .c (.o (.int .u64))), (4, .c (.o (.int .i64)))], [], [⟨0, 107, [.o (.dat 5 (.int .u8)), .o (.int .i64)], false⟩], [], [0]⟩
def spec_l1Rd_word.l3.u (n : Nat) (v : spec_l1Rd_word.l3.s.V) (K : X → St → Prop) : Prop := spec_l1Rd_word.l3 n v.1.2.1 v.1.2.2.1 v.2.2.1.1 v.2.2.1.2.1 (fun y0 y1 y2 => K (.exit 0) ⟨[(3, .c (.int .u64 y0))], [], [(0, ⟨107, [.dat 5 (.int .u8) y1, .int .i64 y2], false⟩)], [], [0]⟩)
theorem spec_l1Rd_word.l3_ok : ∀ n v K, spec_l1Rd_word.l3.u n v K → loopM C X0 n 79 3 (spec_l1Rd_word.l3.s.fill v) K :=
 loop_tell hX (fn := Try.f79) (c := bodyOf Try.f79) (a := loopOf Try.f79 3) (li := liOf (C.fi 79).loops 3) (by kernel_rfl) (by kernel_rfl) (of_decide_eq_true rfl) (by kernel_rfl) (by kernel_rfl) (T := spec_l1Rd_word.l3.s) (u := spec_l1Rd_word.l3.u) (fun _ _ h => h) (call := D7) (lp := fun n => noL) (D7_ok hX) (fun n => noL_ok) (fun n v K => by kernel_rfl)
theorem spec_l1Rd_word_ok : ∀ n v K, spec_l1Rd_word.u n v K → callM C X0 n 79 (fillA spec_l1Rd_word.a v) K :=
 call_tell hX (fn := Try.f79) (c := bodyOf Try.f79) (by kernel_rfl) (by kernel_rfl) (A := spec_l1Rd_word.a) (u := spec_l1Rd_word.u) (fun _ _ h => h) (call := D7) (lp := fun n => orL 3 spec_l1Rd_word.l3.s (spec_l1Rd_word.l3.u n) noL) (D7_ok hX) (fun n => (orL_ok (spec_l1Rd_word.l3_ok hX n) noL_ok)) (fun n v K => by kernel_rfl)
def D8 (n : Nat) : CallF := orC 79 spec_l1Rd_word.a (spec_l1Rd_word.u n) (D7 n)
theorem D8_ok : ∀ n g a K, D8 n g a K → callM C X0 n g a K := fun n => orC_ok (spec_l1Rd_word_ok hX n) (D7_ok hX n)
abbrev spec_l1From.a : List TS := [.c (.o (.dat 5 (.int .u8)))]
def spec_l1From.u (n : Nat) (v : VA spec_l1From.a) (K : RES → Prop) : Prop := spec_l1From.c n v.1 (fun r0 r1 r2 => K ⟨.tup [.agg [.int .i64 r0, .row ⟨90, .int .u64, r1, 99, none⟩], .c (.bool r2)], []⟩)
abbrev spec_l1From.l5.s : ST := ⟨[(0, .c (.o (.dat 5 (.int .u8)))), (2, .c (.o (.pbox 2 0))), (4, .c (.o (.pbox 4 0))), (5, .c (.o (.int .i64)))], [⟨672, 90, .int .u64, 99⟩, ⟨1000065, 90, .int .u64, 99⟩], [⟨2, 44, [.o (.int .i64), .o (.own 1000065)], false⟩, ⟨4, 44, [.o (.int .i64), .o (.own 672)], false⟩], [], []⟩
def spec_l1From.l5.u (n : Nat) (v : spec_l1From.l5.s.V) (K : X → St → Prop) : Prop := spec_l1From.l5 n v.1.1 v.2.1.2.1 v.2.2.1.1 v.2.2.2.1.1 v.1.2.2.2.1 v.2.1.1 (fun y0 y1 y2 y3 => K (.exit 0) ⟨[(2, .c (.pbox 2 0)), (4, .c (.pbox 4 0))], [(672, ⟨90, .int .u64, y0, 99, none⟩), (1000065, ⟨90, .int .u64, y1, 99, none⟩)], [(2, ⟨44, [.int .i64 y2, .own 1000065], false⟩), (4, ⟨44, [.int .i64 y3, .own 672], false⟩)], [], []⟩)
theorem spec_l1From.l5_ok : ∀ n v K, spec_l1From.l5.u n v K → loopM C X0 n 72 5 (spec_l1From.l5.s.fill v) K :=
 loop_tell hX (fn := Try.f72) (c := bodyOf Try.f72) (a := loopOf Try.f72 5) (li := liOf (C.fi 72).loops 5) (by kernel_rfl) (by kernel_rfl) (of_decide_eq_true rfl) (by kernel_rfl) (by kernel_rfl) (T := spec_l1From.l5.s) (u := spec_l1From.l5.u) (fun _ _ h => h) (call := D8) (lp := fun n => noL) (D8_ok hX) (fun n => noL_ok) (fun n v K => by kernel_rfl)
theorem spec_l1From_ok : ∀ n v K, spec_l1From.u n v K → callM C X0 n 72 (fillA spec_l1From.a v) K :=
 call_tell hX (fn := Try.f72) (c := bodyOf Try.f72) (by kernel_rfl) (by kernel_rfl) (A := spec_l1From.a) (u := spec_l1From.u) (fun _ _ h => h) (call := D8) (lp := fun n => orL 5 spec_l1From.l5.s (spec_l1From.l5.u n) noL) (D8_ok hX) (fun n => (orL_ok (spec_l1From.l5_ok hX n) noL_ok)) (fun n v K => by kernel_rfl)
def D9 (n : Nat) : CallF := orC 72 spec_l1From.a (spec_l1From.u n) (D8 n)
theorem D9_ok : ∀ n g a K, D9 n g a K → callM C X0 n g a K := fun n => orC_ok (spec_l1From_ok hX n) (D8_ok hX n)
abbrev spec_l1Rd_bits.a : List TS := [.c (.boxr 107 [.dat 5 (.int .u8), .int .i64]), .c (.o (.int .i64))]
def spec_l1Rd_bits.u (n : Nat) (v : VA spec_l1Rd_bits.a) (K : RES → Prop) : Prop := spec_l1Rd_bits.c n v.1.1 v.1.2.1 v.2.1 (fun r0 r1 r2 r3 => K ⟨.agg [.int .i64 r0, .row ⟨90, .int .u64, r1, 99, none⟩], [[.boxr 107 [.dat 5 (.int .u8) r2, .int .i64 r3]]]⟩)
abbrev spec_l1Rd_bits.l5.s : ST := ⟨[(1, .c (.o (.int .i64))), (4, .c (.o (.pbox 4 0))), (5, .c (.o (.own 160))), (6, .c (.o (.int .u64))), (7, .c (.o (.int .i64))), (8, .c (.o (.int .i64)))], [⟨160, 5, .int .u8, 99⟩, ⟨1000129, 90, .int .u64, 99⟩], [⟨0, 107, [.o (.dat 5 (.int .u8)), .o (.int .i64)], false⟩, ⟨4, 44, [.o (.int .i64), .o (.own 1000129)], false⟩], [], [0]⟩
def spec_l1Rd_bits.l5.u (n : Nat) (v : spec_l1Rd_bits.l5.s.V) (K : X → St → Prop) : Prop := spec_l1Rd_bits.l5 n v.1.1 v.1.2.2.2.1 v.1.2.2.2.2.1 v.2.1.2.1 v.2.2.1.1 v.2.2.1.2.1 v.2.2.2.1.1 v.1.2.2.2.2.2.1 v.2.1.1 (fun y0 y1 y2 y3 y4 => K (.exit 0) ⟨[(4, .c (.pbox 4 0)), (5, .c (.own 160))], [(160, ⟨5, .int .u8, y0, 99, none⟩), (1000129, ⟨90, .int .u64, y1, 99, none⟩)], [(0, ⟨107, [.dat 5 (.int .u8) y2, .int .i64 y3], false⟩), (4, ⟨44, [.int .i64 y4, .own 1000129], false⟩)], [], [0]⟩)
theorem spec_l1Rd_bits.l5_ok : ∀ n v K, spec_l1Rd_bits.l5.u n v K → loopM C X0 n 78 5 (spec_l1Rd_bits.l5.s.fill v) K :=
 loop_tell hX (fn := Try.f78) (c := bodyOf Try.f78) (a := loopOf Try.f78 5) (li := liOf (C.fi 78).loops 5) (by kernel_rfl) (by kernel_rfl) (of_decide_eq_true rfl) (by kernel_rfl) (by kernel_rfl) (T := spec_l1Rd_bits.l5.s) (u := spec_l1Rd_bits.l5.u) (fun _ _ h => h) (call := D9) (lp := fun n => noL) (D9_ok hX) (fun n => noL_ok) (fun n v K => by kernel_rfl)
theorem spec_l1Rd_bits_ok : ∀ n v K, spec_l1Rd_bits.u n v K → callM C X0 n 78 (fillA spec_l1Rd_bits.a v) K :=
 call_tell hX (fn := Try.f78) (c := bodyOf Try.f78) (by kernel_rfl) (by kernel_rfl) (A := spec_l1Rd_bits.a) (u := spec_l1Rd_bits.u) (fun _ _ h => h) (call := D9) (lp := fun n => orL 5 spec_l1Rd_bits.l5.s (spec_l1Rd_bits.l5.u n) noL) (D9_ok hX) (fun n => (orL_ok (spec_l1Rd_bits.l5_ok hX n) noL_ok)) (fun n v K => by kernel_rfl)
def D10 (n : Nat) : CallF := orC 78 spec_l1Rd_bits.a (spec_l1Rd_bits.u n) (D9 n)
theorem D10_ok : ∀ n g a K, D10 n g a K → callM C X0 n g a K := fun n => orC_ok (spec_l1Rd_bits_ok hX n) (D9_ok hX n)
abbrev spec_l1Rd_near.a : List TS := [.c (.boxr 107 [.dat 5 (.int .u8), .int .i64]), .c (.o (.int .i64)), .c (.o (.int .i64))]
def spec_l1Rd_near.u (n : Nat) (v : VA spec_l1Rd_near.a) (K : RES → Prop) : Prop := spec_l1Rd_near.c n v.1.1 v.1.2.1 v.2.1 v.2.2.1 (fun r0 r1 r2 => K ⟨.c (.int .i64 r0), [[.boxr 107 [.dat 5 (.int .u8) r1, .int .i64 r2]]]⟩)
theorem spec_l1Rd_near_ok : ∀ n v K, spec_l1Rd_near.u n v K → callM C X0 n 111 (fillA spec_l1Rd_near.a v) K :=
 call_tell hX (fn := Try.f111) (c := bodyOf Try.f111) (by kernel_rfl) (by kernel_rfl) (A := spec_l1Rd_near.a) (u := spec_l1Rd_near.u) (fun _ _ h => h) (call := D10) (lp := fun n => noL) (D10_ok hX) (fun n => noL_ok) (fun n v K => by kernel_rfl)
def D11 (n : Nat) : CallF := orC 111 spec_l1Rd_near.a (spec_l1Rd_near.u n) (D10 n)
theorem D11_ok : ∀ n g a K, D11 n g a K → callM C X0 n g a K := fun n => orC_ok (spec_l1Rd_near_ok hX n) (D10_ok hX n)
abbrev spec_l1Rd_off.a : List TS := [.c (.boxr 107 [.dat 5 (.int .u8), .int .i64]), .c (.o (.int .i64)), .c (.o (.int .i64))]
def spec_l1Rd_off.u (n : Nat) (v : VA spec_l1Rd_off.a) (K : RES → Prop) : Prop := spec_l1Rd_off.c n v.1.1 v.1.2.1 v.2.1 v.2.2.1 (fun r0 r1 r2 => K ⟨.c (.int .i64 r0), [[.boxr 107 [.dat 5 (.int .u8) r1, .int .i64 r2]]]⟩)
theorem spec_l1Rd_off_ok : ∀ n v K, spec_l1Rd_off.u n v K → callM C X0 n 82 (fillA spec_l1Rd_off.a v) K :=
 call_tell hX (fn := Try.f82) (c := bodyOf Try.f82) (by kernel_rfl) (by kernel_rfl) (A := spec_l1Rd_off.a) (u := spec_l1Rd_off.u) (fun _ _ h => h) (call := D11) (lp := fun n => noL) (D11_ok hX) (fun n => noL_ok) (fun n v K => by kernel_rfl)
def D12 (n : Nat) : CallF := orC 82 spec_l1Rd_off.a (spec_l1Rd_off.u n) (D11 n)
theorem D12_ok : ∀ n g a K, D12 n g a K → callM C X0 n g a K := fun n => orC_ok (spec_l1Rd_off_ok hX n) (D11_ok hX n)
abbrev spec_l1Rd_oddBits.a : List TS := [.c (.boxr 107 [.dat 5 (.int .u8), .int .i64])]
def spec_l1Rd_oddBits.u (n : Nat) (v : VA spec_l1Rd_oddBits.a) (K : RES → Prop) : Prop := spec_l1Rd_oddBits.c n v.1.1 v.1.2.1 (fun r0 r1 r2 r3 => K ⟨.agg [.int .i64 r0, .row ⟨90, .int .u64, r1, 99, none⟩], [[.boxr 107 [.dat 5 (.int .u8) r2, .int .i64 r3]]]⟩)
theorem spec_l1Rd_oddBits_ok : ∀ n v K, spec_l1Rd_oddBits.u n v K → callM C X0 n 80 (fillA spec_l1Rd_oddBits.a v) K :=
 call_tell hX (fn := Try.f80) (c := bodyOf Try.f80) (by kernel_rfl) (by kernel_rfl) (A := spec_l1Rd_oddBits.a) (u := spec_l1Rd_oddBits.u) (fun _ _ h => h) (call := D12) (lp := fun n => noL) (D12_ok hX) (fun n => noL_ok) (fun n v K => by kernel_rfl)
def D13 (n : Nat) : CallF := orC 80 spec_l1Rd_oddBits.a (spec_l1Rd_oddBits.u n) (D12 n)
theorem D13_ok : ∀ n g a K, D13 n g a K → callM C X0 n g a K := fun n => orC_ok (spec_l1Rd_oddBits_ok hX n) (D12_ok hX n)
abbrev spec_l1Rd_values.a : List TS := [.c (.boxr 107 [.dat 5 (.int .u8), .int .i64]), .c (.o (.dat 112 (.prod .str (.int .i64))))]
def spec_l1Rd_values.u (n : Nat) (v : VA spec_l1Rd_values.a) (K : RES → Prop) : Prop := spec_l1Rd_values.c n v.1.1 v.1.2.1 v.2.1 (fun r0 r1 r2 => K ⟨.c (.dat 44 (.prod (.int .i64) (.sl 90 (.int .u64))) r0), [[.boxr 107 [.dat 5 (.int .u8) r1, .int .i64 r2]]]⟩)
abbrev spec_l1Rd_values.l3.s : ST := ⟨[(0, .c (.o (.pbox 0 0))), (1, .c (.o (.dat 112 (.prod .str (.int .i64))))), (5, .c (.o (.own 160))), (6, .c (.o (.int .i64)))], [⟨160, 44, .prod (.int .i64) (.sl 90 (.int .u64)), 99⟩], [⟨0, 107, [.o (.dat 5 (.int .u8)), .o (.int .i64)], false⟩], [], [0]⟩
def spec_l1Rd_values.l3.u (n : Nat) (v : spec_l1Rd_values.l3.s.V) (K : X → St → Prop) : Prop := spec_l1Rd_values.l3 n v.1.2.1 v.1.2.2.2.1 v.2.1.1 v.2.2.1.1 v.2.2.1.2.1 (fun y0 y1 y2 => K (.exit 0) ⟨[(0, .c (.pbox 0 0)), (5, .c (.own 160))], [(160, ⟨44, .prod (.int .i64) (.sl 90 (.int .u64)), y0, 99, none⟩)], [(0, ⟨107, [.dat 5 (.int .u8) y1, .int .i64 y2], false⟩)], [], [0]⟩)
theorem spec_l1Rd_values.l3_ok : ∀ n v K, spec_l1Rd_values.l3.u n v K → loopM C X0 n 32 3 (spec_l1Rd_values.l3.s.fill v) K :=
 loop_tell hX (fn := Try.f32) (c := bodyOf Try.f32) (a := loopOf Try.f32 3) (li := liOf (C.fi 32).loops 3) (by kernel_rfl) (by kernel_rfl) (of_decide_eq_true rfl) (by kernel_rfl) (by kernel_rfl) (T := spec_l1Rd_values.l3.s) (u := spec_l1Rd_values.l3.u) (fun _ _ h => h) (call := D13) (lp := fun n => noL) (D13_ok hX) (fun n => noL_ok) (fun n v K => by kernel_rfl)
theorem spec_l1Rd_values_ok : ∀ n v K, spec_l1Rd_values.u n v K → callM C X0 n 32 (fillA spec_l1Rd_values.a v) K :=
 call_tell hX (fn := Try.f32) (c := bodyOf Try.f32) (by kernel_rfl) (by kernel_rfl) (A := spec_l1Rd_values.a) (u := spec_l1Rd_values.u) (fun _ _ h => h) (call := D13) (lp := fun n => orL 3 spec_l1Rd_values.l3.s (spec_l1Rd_values.l3.u n) noL) (D13_ok hX) (fun n => (orL_ok (spec_l1Rd_values.l3_ok hX n) noL_ok)) (fun n v K => by kernel_rfl)
def D14 (n : Nat) : CallF := orC 32 spec_l1Rd_values.a (spec_l1Rd_values.u n) (D13 n)
theorem D14_ok : ∀ n g a K, D14 n g a K → callM C X0 n g a K := fun n => orC_ok (spec_l1Rd_values_ok hX n) (D13_ok hX n)
abbrev spec_l1Rd_size.a : List TS := [.c (.boxr 107 [.dat 5 (.int .u8), .int .i64]), .c (.o (.int .i64)), .c (.o (.int .i64))]
def spec_l1Rd_size.u (n : Nat) (v : VA spec_l1Rd_size.a) (K : RES → Prop) : Prop := spec_l1Rd_size.c n v.1.1 v.1.2.1 v.2.1 v.2.2.1 (fun r0 r1 r2 => K ⟨.c (.int .i64 r0), [[.boxr 107 [.dat 5 (.int .u8) r1, .int .i64 r2]]]⟩)
theorem spec_l1Rd_size_ok : ∀ n v K, spec_l1Rd_size.u n v K → callM C X0 n 109 (fillA spec_l1Rd_size.a v) K :=
 call_tell hX (fn := Try.f109) (c := bodyOf Try.f109) (by kernel_rfl) (by kernel_rfl) (A := spec_l1Rd_size.a) (u := spec_l1Rd_size.u) (fun _ _ h => h) (call := D14) (lp := fun n => noL) (D14_ok hX) (fun n => noL_ok) (fun n v K => by kernel_rfl)
def D15 (n : Nat) : CallF := orC 109 spec_l1Rd_size.a (spec_l1Rd_size.u n) (D14 n)
theorem D15_ok : ∀ n g a K, D15 n g a K → callM C X0 n g a K := fun n => orC_ok (spec_l1Rd_size_ok hX n) (D14_ok hX n)
abbrev spec_l3CopyNode.a : List TS := [.a [.o (.int .i64), .o (.int .i64), .o (.int .i64), .o (.int .i64), .o (.int .i64), .o (.dat 90 (.int .u64)), .o (.dat 2 (.int .i64))]]
def spec_l3CopyNode.u (n : Nat) (v : VA spec_l3CopyNode.a) (K : RES → Prop) : Prop := spec_l3CopyNode.c n v.1.1 v.1.2.1 v.1.2.2.1 v.1.2.2.2.1 v.1.2.2.2.2.1 v.1.2.2.2.2.2.1 v.1.2.2.2.2.2.2.1 (fun r0 r1 r2 r3 r4 r5 r6 => K ⟨.agg [.int .i64 r0, .int .i64 r1, .int .i64 r2, .int .i64 r3, .int .i64 r4, .row ⟨90, .int .u64, r5, 99, none⟩, .row ⟨2, .int .i64, r6, 99, none⟩], []⟩)
theorem spec_l3CopyNode_ok : ∀ n v K, spec_l3CopyNode.u n v K → callM C X0 n 138 (fillA spec_l3CopyNode.a v) K :=
 call_tell hX (fn := Try.f138) (c := bodyOf Try.f138) (by kernel_rfl) (by kernel_rfl) (A := spec_l3CopyNode.a) (u := spec_l3CopyNode.u) (fun _ _ h => h) (call := D15) (lp := fun n => noL) (D15_ok hX) (fun n => noL_ok) (fun n v K => by kernel_rfl)
def D16 (n : Nat) : CallF := orC 138 spec_l3CopyNode.a (spec_l3CopyNode.u n) (D15 n)
theorem D16_ok : ∀ n g a K, D16 n g a K → callM C X0 n g a K := fun n => orC_ok (spec_l3CopyNode_ok hX n) (D15_ok hX n)
abbrev spec_l3Prune.a : List TS := [.c (.o (.dat 79 (.prod (.int .i64) (.prod (.int .i64) (.prod (.int .i64) (.prod (.int .i64) (.prod (.int .i64) (.prod (.sl 90 (.int .u64)) (.sl 2 (.int .i64)))))))))), .c (.o (.int .i64))]
def spec_l3Prune.u (n : Nat) (v : VA spec_l3Prune.a) (K : RES → Prop) : Prop := spec_l3Prune.c n v.1 v.2.1 (fun r0 => K ⟨.c (.row ⟨79, .prod (.int .i64) (.prod (.int .i64) (.prod (.int .i64) (.prod (.int .i64) (.prod (.int .i64) (.prod (.sl 90 (.int .u64)) (.sl 2 (.int .i64))))))), r0, 99, none⟩), []⟩)
abbrev spec_l3Prune.l8.s : ST := ⟨[(0, .c (.o (.dat 79 (.prod (.int .i64) (.prod (.int .i64) (.prod (.int .i64) (.prod (.int .i64) (.prod (.int .i64) (.prod (.sl 90 (.int .u64)) (.sl 2 (.int .i64))))))))))), (5, .c (.o (.own 480))), (6, .c (.o (.own 672))), (7, .c (.o (.int .i64))), (8, .c (.o (.int .i64)))], [⟨480, 4, .bool, 99⟩, ⟨672, 2, .int .i64, 99⟩], [], [], []⟩
def spec_l3Prune.l8.u (n : Nat) (v : spec_l3Prune.l8.s.V) (K : X → St → Prop) : Prop := spec_l3Prune.l8 n v.1.1 v.1.2.2.2.1 v.2.1.2.1 v.1.2.2.2.2.1 v.2.1.1 (fun y0 y1 y2 y3 => K (.exit 2) ⟨[(0, .c (.dat 79 (.prod (.int .i64) (.prod (.int .i64) (.prod (.int .i64) (.prod (.int .i64) (.prod (.int .i64) (.prod (.sl 90 (.int .u64)) (.sl 2 (.int .i64)))))))) y0)), (5, .c (.own 480)), (6, .c (.own 672)), (7, .c (.int .i64 y1))], [(480, ⟨4, .bool, y2, 99, none⟩), (672, ⟨2, .int .i64, y3, 99, none⟩)], [], [], []⟩)
abbrev spec_l3Prune.l5.s : ST := ⟨[(0, .c (.o (.dat 79 (.prod (.int .i64) (.prod (.int .i64) (.prod (.int .i64) (.prod (.int .i64) (.prod (.int .i64) (.prod (.sl 90 (.int .u64)) (.sl 2 (.int .i64))))))))))), (5, .c (.o (.own 480))), (6, .c (.o (.own 672))), (7, .c (.o (.int .i64)))], [⟨480, 4, .bool, 99⟩, ⟨672, 2, .int .i64, 99⟩], [], [], []⟩
def spec_l3Prune.l5.u (n : Nat) (v : spec_l3Prune.l5.s.V) (K : X → St → Prop) : Prop := spec_l3Prune.l5 n v.1.1 v.1.2.2.2.1 v.2.1.1 v.2.1.2.1 (fun y0 y1 y2 => K (.exit 0) ⟨[(0, .c (.dat 79 (.prod (.int .i64) (.prod (.int .i64) (.prod (.int .i64) (.prod (.int .i64) (.prod (.int .i64) (.prod (.sl 90 (.int .u64)) (.sl 2 (.int .i64)))))))) y0)), (5, .c (.own 480)), (6, .c (.own 672))], [(480, ⟨4, .bool, y1, 99, none⟩), (672, ⟨2, .int .i64, y2, 99, none⟩)], [], [], []⟩)
abbrev spec_l3Prune.l18.s : ST := ⟨[(0, .c (.o (.dat 79 (.prod (.int .i64) (.prod (.int .i64) (.prod (.int .i64) (.prod (.int .i64) (.prod (.int .i64) (.prod (.sl 90 (.int .u64)) (.sl 2 (.int .i64))))))))))), (5, .c (.o (.own 480))), (6, .c (.o (.own 672))), (9, .c (.o (.own 288))), (10, .c (.o (.int .i64))), (11, .c (.o (.pbox 11 0))), (12, .c (.o (.int .i64)))], [⟨288, 79, .prod (.int .i64) (.prod (.int .i64) (.prod (.int .i64) (.prod (.int .i64) (.prod (.int .i64) (.prod (.sl 90 (.int .u64)) (.sl 2 (.int .i64))))))), 99⟩, ⟨480, 4, .bool, 99⟩, ⟨672, 2, .int .i64, 99⟩, ⟨2277, 90, .int .u64, 99⟩, ⟨2278, 2, .int .i64, 99⟩], [⟨11, 79, [.o (.int .i64), .o (.int .i64), .o (.int .i64), .o (.int .i64), .o (.int .i64), .o (.own 2277), .o (.own 2278)], false⟩], [], []⟩
def spec_l3Prune.l18.u (n : Nat) (v : spec_l3Prune.l18.s.V) (K : X → St → Prop) : Prop := spec_l3Prune.l18 n v.1.1 v.1.2.2.2.2.1 v.2.1.1 v.2.1.2.1 v.2.1.2.2.1 v.2.1.2.2.2.1 v.2.2.1.1 v.2.2.1.2.1 v.2.2.1.2.2.1 v.2.2.1.2.2.2.1 v.2.2.1.2.2.2.2.1 v.1.2.2.2.2.2.2.1 v.2.1.2.2.2.2.1 (fun y0 y1 y2 y3 y4 y5 y6 y7 y8 y9 y10 y11 => K (.exit 6) ⟨[(0, .c (.dat 79 (.prod (.int .i64) (.prod (.int .i64) (.prod (.int .i64) (.prod (.int .i64) (.prod (.int .i64) (.prod (.sl 90 (.int .u64)) (.sl 2 (.int .i64)))))))) y0)), (5, .c (.own 480)), (6, .c (.own 672)), (9, .c (.own 288)), (10, .c (.int .i64 y1)), (11, .c (.pbox 11 0))], [(288, ⟨79, .prod (.int .i64) (.prod (.int .i64) (.prod (.int .i64) (.prod (.int .i64) (.prod (.int .i64) (.prod (.sl 90 (.int .u64)) (.sl 2 (.int .i64))))))), y2, 99, none⟩), (480, ⟨4, .bool, y3, 99, none⟩), (672, ⟨2, .int .i64, y4, 99, none⟩), (2277, ⟨90, .int .u64, y5, 99, none⟩), (2278, ⟨2, .int .i64, y6, 99, none⟩)], [(11, ⟨79, [.int .i64 y7, .int .i64 y8, .int .i64 y9, .int .i64 y10, .int .i64 y11, .own 2277, .own 2278], false⟩)], [], []⟩)
abbrev spec_l3Prune.l13.s : ST := ⟨[(0, .c (.o (.dat 79 (.prod (.int .i64) (.prod (.int .i64) (.prod (.int .i64) (.prod (.int .i64) (.prod (.int .i64) (.prod (.sl 90 (.int .u64)) (.sl 2 (.int .i64))))))))))), (5, .c (.o (.own 480))), (6, .c (.o (.own 672))), (9, .c (.o (.own 288))), (10, .c (.o (.int .i64)))], [⟨288, 79, .prod (.int .i64) (.prod (.int .i64) (.prod (.int .i64) (.prod (.int .i64) (.prod (.int .i64) (.prod (.sl 90 (.int .u64)) (.sl 2 (.int .i64))))))), 99⟩, ⟨480, 4, .bool, 99⟩, ⟨672, 2, .int .i64, 99⟩], [], [], []⟩
def spec_l3Prune.l13.u (n : Nat) (v : spec_l3Prune.l13.s.V) (K : X → St → Prop) : Prop := spec_l3Prune.l13 n v.1.1 v.1.2.2.2.2.1 v.2.1.1 v.2.1.2.1 v.2.1.2.2.1 (fun y0 => K (.exit 4) ⟨[(9, .c (.own 288))], [(288, ⟨79, .prod (.int .i64) (.prod (.int .i64) (.prod (.int .i64) (.prod (.int .i64) (.prod (.int .i64) (.prod (.sl 90 (.int .u64)) (.sl 2 (.int .i64))))))), y0, 99, none⟩)], [], [], []⟩)
theorem spec_l3Prune.l8_ok : ∀ n v K, spec_l3Prune.l8.u n v K → loopM C X0 n 119 8 (spec_l3Prune.l8.s.fill v) K :=
 loop_tell hX (fn := Try.f119) (c := bodyOf Try.f119) (a := loopOf Try.f119 8) (li := liOf (C.fi 119).loops 8) (by kernel_rfl) (by kernel_rfl) (of_decide_eq_true rfl) (by kernel_rfl) (by kernel_rfl) (T := spec_l3Prune.l8.s) (u := spec_l3Prune.l8.u) (fun _ _ h => h) (call := D16) (lp := fun n => noL) (D16_ok hX) (fun n => noL_ok) (fun n v K => by kernel_rfl)
theorem spec_l3Prune.l5_ok : ∀ n v K, spec_l3Prune.l5.u n v K → loopM C X0 n 119 5 (spec_l3Prune.l5.s.fill v) K :=
 loop_tell hX (fn := Try.f119) (c := bodyOf Try.f119) (a := loopOf Try.f119 5) (li := liOf (C.fi 119).loops 5) (by kernel_rfl) (by kernel_rfl) (of_decide_eq_true rfl) (by kernel_rfl) (by kernel_rfl) (T := spec_l3Prune.l5.s) (u := spec_l3Prune.l5.u) (fun _ _ h => h) (call := D16) (lp := fun n => orL 8 spec_l3Prune.l8.s (spec_l3Prune.l8.u n) noL) (D16_ok hX) (fun n => (orL_ok (spec_l3Prune.l8_ok hX n) noL_ok)) (fun n v K => by kernel_rfl)
theorem spec_l3Prune.l18_ok : ∀ n v K, spec_l3Prune.l18.u n v K → loopM C X0 n 119 18 (spec_l3Prune.l18.s.fill v) K :=
 loop_tell hX (fn := Try.f119) (c := bodyOf Try.f119) (a := loopOf Try.f119 18) (li := liOf (C.fi 119).loops 18) (by kernel_rfl) (by kernel_rfl) (of_decide_eq_true rfl) (by kernel_rfl) (by kernel_rfl) (T := spec_l3Prune.l18.s) (u := spec_l3Prune.l18.u) (fun _ _ h => h) (call := D16) (lp := fun n => noL) (D16_ok hX) (fun n => noL_ok) (fun n v K => by kernel_rfl)
theorem spec_l3Prune.l13_ok : ∀ n v K, spec_l3Prune.l13.u n v K → loopM C X0 n 119 13 (spec_l3Prune.l13.s.fill v) K :=
 loop_tell hX (fn := Try.f119) (c := bodyOf Try.f119) (a := loopOf Try.f119 13) (li := liOf (C.fi 119).loops 13) (by kernel_rfl) (by kernel_rfl) (of_decide_eq_true rfl) (by kernel_rfl) (by kernel_rfl) (T := spec_l3Prune.l13.s) (u := spec_l3Prune.l13.u) (fun _ _ h => h) (call := D16) (lp := fun n => orL 18 spec_l3Prune.l18.s (spec_l3Prune.l18.u n) noL) (D16_ok hX) (fun n => (orL_ok (spec_l3Prune.l18_ok hX n) noL_ok)) (fun n v K => by kernel_rfl)
theorem spec_l3Prune_ok : ∀ n v K, spec_l3Prune.u n v K → callM C X0 n 119 (fillA spec_l3Prune.a v) K :=
 call_tell hX (fn := Try.f119) (c := bodyOf Try.f119) (by kernel_rfl) (by kernel_rfl) (A := spec_l3Prune.a) (u := spec_l3Prune.u) (fun _ _ h => h) (call := D16) (lp := fun n => orL 5 spec_l3Prune.l5.s (spec_l3Prune.l5.u n) (orL 13 spec_l3Prune.l13.s (spec_l3Prune.l13.u n) noL)) (D16_ok hX) (fun n => (orL_ok (spec_l3Prune.l5_ok hX n) (orL_ok (spec_l3Prune.l13_ok hX n) noL_ok))) (fun n v K => by kernel_rfl)
def D17 (n : Nat) : CallF := orC 119 spec_l3Prune.a (spec_l3Prune.u n) (D16 n)
theorem D17_ok : ∀ n g a K, D17 n g a K → callM C X0 n g a K := fun n => orC_ok (spec_l3Prune_ok hX n) (D16_ok hX n)
abbrev spec_l1Digit.a : List TS := [.c (.o (.int .u8))]
def spec_l1Digit.u (n : Nat) (v : VA spec_l1Digit.a) (K : RES → Prop) : Prop := spec_l1Digit.c n v.1 (fun r0 => K ⟨.c (.bool r0), []⟩)
theorem spec_l1Digit_ok : ∀ n v K, spec_l1Digit.u n v K → callM C X0 n 137 (fillA spec_l1Digit.a v) K :=
 call_tell hX (fn := Try.f137) (c := bodyOf Try.f137) (by kernel_rfl) (by kernel_rfl) (A := spec_l1Digit.a) (u := spec_l1Digit.u) (fun _ _ h => h) (call := D17) (lp := fun n => noL) (D17_ok hX) (fun n => noL_ok) (fun n v K => by kernel_rfl)
def D18 (n : Nat) : CallF := orC 137 spec_l1Digit.a (spec_l1Digit.u n) (D17 n)
theorem D18_ok : ∀ n g a K, D18 n g a K → callM C X0 n g a K := fun n => orC_ok (spec_l1Digit_ok hX n) (D17_ok hX n)
abbrev spec_l1Name.a : List TS := [.c (.o .str)]
def spec_l1Name.u (n : Nat) (v : VA spec_l1Name.a) (K : RES → Prop) : Prop := spec_l1Name.c n v.1 (fun r0 => K ⟨.c (.bool r0), []⟩)
abbrev spec_l1Name.l4.s : ST := ⟨[(0, .c (.o .str)), (3, .c (.o (.int .i64)))], [], [], [], []⟩
def spec_l1Name.l4.u (n : Nat) (v : spec_l1Name.l4.s.V) (K : X → St → Prop) : Prop := spec_l1Name.l4 n v.1.1 v.1.2.1 (K (.exit 0) ⟨[], [], [], [], []⟩) (fun y0 => K .ret ⟨[(2, .c (.bool y0))], [], [], [], []⟩)
theorem spec_l1Name.l4_ok : ∀ n v K, spec_l1Name.l4.u n v K → loopM C X0 n 112 4 (spec_l1Name.l4.s.fill v) K :=
 loop_tell hX (fn := Try.f112) (c := bodyOf Try.f112) (a := loopOf Try.f112 4) (li := liOf (C.fi 112).loops 4) (by kernel_rfl) (by kernel_rfl) (of_decide_eq_true rfl) (by kernel_rfl) (by kernel_rfl) (T := spec_l1Name.l4.s) (u := spec_l1Name.l4.u) (fun _ _ h => h) (call := D18) (lp := fun n => noL) (D18_ok hX) (fun n => noL_ok) (fun n v K => by kernel_rfl)
theorem spec_l1Name_ok : ∀ n v K, spec_l1Name.u n v K → callM C X0 n 112 (fillA spec_l1Name.a v) K :=
 call_tell hX (fn := Try.f112) (c := bodyOf Try.f112) (by kernel_rfl) (by kernel_rfl) (A := spec_l1Name.a) (u := spec_l1Name.u) (fun _ _ h => h) (call := D18) (lp := fun n => orL 4 spec_l1Name.l4.s (spec_l1Name.l4.u n) noL) (D18_ok hX) (fun n => (orL_ok (spec_l1Name.l4_ok hX n) noL_ok)) (fun n v K => by kernel_rfl)
def D19 (n : Nat) : CallF := orC 112 spec_l1Name.a (spec_l1Name.u n) (D18 n)
theorem D19_ok : ∀ n g a K, D19 n g a K → callM C X0 n g a K := fun n => orC_ok (spec_l1Name_ok hX n) (D18_ok hX n)
abbrev spec_l1In.a : List TS := [.c (.o (.int .i64)), .c (.o (.int .i64)), .c (.o (.int .i64))]
def spec_l1In.u (n : Nat) (v : VA spec_l1In.a) (K : RES → Prop) : Prop := spec_l1In.c n v.1 v.2.1 v.2.2.1 (fun r0 => K ⟨.c (.bool r0), []⟩)
theorem spec_l1In_ok : ∀ n v K, spec_l1In.u n v K → callM C X0 n 84 (fillA spec_l1In.a v) K :=
 call_tell hX (fn := Try.f84) (c := bodyOf Try.f84) (by kernel_rfl) (by kernel_rfl) (A := spec_l1In.a) (u := spec_l1In.u) (fun _ _ h => h) (call := D19) (lp := fun n => noL) (D19_ok hX) (fun n => noL_ok) (fun n v K => by kernel_rfl)
def D20 (n : Nat) : CallF := orC 84 spec_l1In.a (spec_l1In.u n) (D19 n)
theorem D20_ok : ∀ n g a K, D20 n g a K → callM C X0 n g a K := fun n => orC_ok (spec_l1In_ok hX n) (D19_ok hX n)
abbrev spec_DeclsOk.a : List TS := [.c (.o (.dat 112 (.prod .str (.int .i64))))]
def spec_DeclsOk.u (n : Nat) (v : VA spec_DeclsOk.a) (K : RES → Prop) : Prop := spec_DeclsOk.c n v.1 (fun r0 => K ⟨.c (.bool r0), []⟩)
abbrev spec_DeclsOk.l10.s : ST := ⟨[(0, .c (.o (.dat 112 (.prod .str (.int .i64))))), (3, .c (.o (.int .i64))), (4, .c (.o (.int .i64))), (5, .c (.o (.int .i64)))], [], [], [], []⟩
def spec_DeclsOk.l10.u (n : Nat) (v : spec_DeclsOk.l10.s.V) (K : X → St → Prop) : Prop := spec_DeclsOk.l10 n v.1.1 v.1.2.1 v.1.2.2.1 v.1.2.2.2.1 (fun y0 y1 y2 => K (.exit 2) ⟨[(0, .c (.dat 112 (.prod .str (.int .i64)) y0)), (3, .c (.int .i64 y1)), (4, .c (.int .i64 y2))], [], [], [], []⟩) (fun y0 => K .ret ⟨[(2, .c (.bool y0))], [], [], [], []⟩)
abbrev spec_DeclsOk.l5.s : ST := ⟨[(0, .c (.o (.dat 112 (.prod .str (.int .i64))))), (3, .c (.o (.int .i64))), (4, .c (.o (.int .i64)))], [], [], [], []⟩
def spec_DeclsOk.l5.u (n : Nat) (v : spec_DeclsOk.l5.s.V) (K : X → St → Prop) : Prop := spec_DeclsOk.l5 n v.1.1 v.1.2.1 v.1.2.2.1 (fun y0 => K (.exit 0) ⟨[(3, .c (.int .i64 y0))], [], [], [], []⟩) (fun y0 => K .ret ⟨[(2, .c (.bool y0))], [], [], [], []⟩)
theorem spec_DeclsOk.l10_ok : ∀ n v K, spec_DeclsOk.l10.u n v K → loopM C X0 n 83 10 (spec_DeclsOk.l10.s.fill v) K :=
 loop_tell hX (fn := Try.f83) (c := bodyOf Try.f83) (a := loopOf Try.f83 10) (li := liOf (C.fi 83).loops 10) (by kernel_rfl) (by kernel_rfl) (of_decide_eq_true rfl) (by kernel_rfl) (by kernel_rfl) (T := spec_DeclsOk.l10.s) (u := spec_DeclsOk.l10.u) (fun _ _ h => h) (call := D20) (lp := fun n => noL) (D20_ok hX) (fun n => noL_ok) (fun n v K => by kernel_rfl)
theorem spec_DeclsOk.l5_ok : ∀ n v K, spec_DeclsOk.l5.u n v K → loopM C X0 n 83 5 (spec_DeclsOk.l5.s.fill v) K :=
 loop_tell hX (fn := Try.f83) (c := bodyOf Try.f83) (a := loopOf Try.f83 5) (li := liOf (C.fi 83).loops 5) (by kernel_rfl) (by kernel_rfl) (of_decide_eq_true rfl) (by kernel_rfl) (by kernel_rfl) (T := spec_DeclsOk.l5.s) (u := spec_DeclsOk.l5.u) (fun _ _ h => h) (call := D20) (lp := fun n => orL 10 spec_DeclsOk.l10.s (spec_DeclsOk.l10.u n) noL) (D20_ok hX) (fun n => (orL_ok (spec_DeclsOk.l10_ok hX n) noL_ok)) (fun n v K => by kernel_rfl)
theorem spec_DeclsOk_ok : ∀ n v K, spec_DeclsOk.u n v K → callM C X0 n 83 (fillA spec_DeclsOk.a v) K :=
 call_tell hX (fn := Try.f83) (c := bodyOf Try.f83) (by kernel_rfl) (by kernel_rfl) (A := spec_DeclsOk.a) (u := spec_DeclsOk.u) (fun _ _ h => h) (call := D20) (lp := fun n => orL 5 spec_DeclsOk.l5.s (spec_DeclsOk.l5.u n) noL) (D20_ok hX) (fun n => (orL_ok (spec_DeclsOk.l5_ok hX n) noL_ok)) (fun n v K => by kernel_rfl)
def D21 (n : Nat) : CallF := orC 83 spec_DeclsOk.a (spec_DeclsOk.u n) (D20 n)
theorem D21_ok : ∀ n g a K, D21 n g a K → callM C X0 n g a K := fun n => orC_ok (spec_DeclsOk_ok hX n) (D20_ok hX n)
abbrev spec_l3NoBits.a : List TS := [.a [.o (.int .i64), .o (.dat 90 (.int .u64))]]
def spec_l3NoBits.u (n : Nat) (v : VA spec_l3NoBits.a) (K : RES → Prop) : Prop := spec_l3NoBits.c n v.1.1 v.1.2.1 (fun r0 => K ⟨.c (.bool r0), []⟩)
theorem spec_l3NoBits_ok : ∀ n v K, spec_l3NoBits.u n v K → callM C X0 n 139 (fillA spec_l3NoBits.a v) K :=
 call_tell hX (fn := Try.f139) (c := bodyOf Try.f139) (by kernel_rfl) (by kernel_rfl) (A := spec_l3NoBits.a) (u := spec_l3NoBits.u) (fun _ _ h => h) (call := D21) (lp := fun n => noL) (D21_ok hX) (fun n => noL_ok) (fun n v K => by kernel_rfl)
def D22 (n : Nat) : CallF := orC 139 spec_l3NoBits.a (spec_l3NoBits.u n) (D21 n)
theorem D22_ok : ∀ n g a K, D22 n g a K → callM C X0 n g a K := fun n => orC_ok (spec_l3NoBits_ok hX n) (D21_ok hX n)
abbrev spec_l3One.a : List TS := [.c (.o (.int .i64))]
def spec_l3One.u (n : Nat) (v : VA spec_l3One.a) (K : RES → Prop) : Prop := spec_l3One.c n v.1 (fun r0 => K ⟨.c (.bool r0), []⟩)
theorem spec_l3One_ok : ∀ n v K, spec_l3One.u n v K → callM C X0 n 140 (fillA spec_l3One.a v) K :=
 call_tell hX (fn := Try.f140) (c := bodyOf Try.f140) (by kernel_rfl) (by kernel_rfl) (A := spec_l3One.a) (u := spec_l3One.u) (fun _ _ h => h) (call := D22) (lp := fun n => noL) (D22_ok hX) (fun n => noL_ok) (fun n v K => by kernel_rfl)
def D23 (n : Nat) : CallF := orC 140 spec_l3One.a (spec_l3One.u n) (D22 n)
theorem D23_ok : ∀ n g a K, D23 n g a K → callM C X0 n g a K := fun n => orC_ok (spec_l3One_ok hX n) (D22_ok hX n)
abbrev spec_l1Bit.a : List TS := [.a [.o (.int .i64), .o (.dat 90 (.int .u64))], .c (.o (.int .i64))]
def spec_l1Bit.u (n : Nat) (v : VA spec_l1Bit.a) (K : RES → Prop) : Prop := spec_l1Bit.c n v.1.1 v.1.2.1 v.2.1 (fun r0 => K ⟨.c (.int .u8 r0), []⟩)
theorem spec_l1Bit_ok : ∀ n v K, spec_l1Bit.u n v K → callM C X0 n 74 (fillA spec_l1Bit.a v) K :=
 call_tell hX (fn := Try.f74) (c := bodyOf Try.f74) (by kernel_rfl) (by kernel_rfl) (A := spec_l1Bit.a) (u := spec_l1Bit.u) (fun _ _ h => h) (call := D23) (lp := fun n => noL) (D23_ok hX) (fun n => noL_ok) (fun n v K => by kernel_rfl)
def D24 (n : Nat) : CallF := orC 74 spec_l1Bit.a (spec_l1Bit.u n) (D23 n)
theorem D24_ok : ∀ n g a K, D24 n g a K → callM C X0 n g a K := fun n => orC_ok (spec_l1Bit_ok hX n) (D23_ok hX n)
abbrev spec_BitsOk.a : List TS := [.a [.o (.int .i64), .o (.dat 90 (.int .u64))]]
def spec_BitsOk.u (n : Nat) (v : VA spec_BitsOk.a) (K : RES → Prop) : Prop := spec_BitsOk.c n v.1.1 v.1.2.1 (fun r0 => K ⟨.c (.bool r0), []⟩)
abbrev spec_BitsOk.l4.s : ST := ⟨[(1, .c (.o (.pbox 1 0))), (3, .c (.o (.int .i64)))], [], [⟨1, 44, [.o (.int .i64), .o (.dat 90 (.int .u64))], false⟩], [], []⟩
def spec_BitsOk.l4.u (n : Nat) (v : spec_BitsOk.l4.s.V) (K : X → St → Prop) : Prop := spec_BitsOk.l4 n v.2.2.1.1 v.2.2.1.2.1 v.1.2.1 (K (.exit 0) ⟨[], [], [], [], []⟩) (fun y0 => K .ret ⟨[(2, .c (.bool y0))], [], [], [], []⟩)
theorem spec_BitsOk.l4_ok : ∀ n v K, spec_BitsOk.l4.u n v K → loopM C X0 n 71 4 (spec_BitsOk.l4.s.fill v) K :=
 loop_tell hX (fn := Try.f71) (c := bodyOf Try.f71) (a := loopOf Try.f71 4) (li := liOf (C.fi 71).loops 4) (by kernel_rfl) (by kernel_rfl) (of_decide_eq_true rfl) (by kernel_rfl) (by kernel_rfl) (T := spec_BitsOk.l4.s) (u := spec_BitsOk.l4.u) (fun _ _ h => h) (call := D24) (lp := fun n => noL) (D24_ok hX) (fun n => noL_ok) (fun n v K => by kernel_rfl)
theorem spec_BitsOk_ok : ∀ n v K, spec_BitsOk.u n v K → callM C X0 n 71 (fillA spec_BitsOk.a v) K :=
 call_tell hX (fn := Try.f71) (c := bodyOf Try.f71) (by kernel_rfl) (by kernel_rfl) (A := spec_BitsOk.a) (u := spec_BitsOk.u) (fun _ _ h => h) (call := D24) (lp := fun n => orL 4 spec_BitsOk.l4.s (spec_BitsOk.l4.u n) noL) (D24_ok hX) (fun n => (orL_ok (spec_BitsOk.l4_ok hX n) noL_ok)) (fun n v K => by kernel_rfl)
def D25 (n : Nat) : CallF := orC 71 spec_BitsOk.a (spec_BitsOk.u n) (D24 n)
theorem D25_ok : ∀ n g a K, D25 n g a K → callM C X0 n g a K := fun n => orC_ok (spec_BitsOk_ok hX n) (D24_ok hX n)
abbrev spec_l3Form.a : List TS := [.c (.o (.dat 112 (.prod .str (.int .i64)))), .a [.o (.int .i64), .o (.int .i64), .o (.int .i64), .o (.int .i64), .o (.int .i64), .o (.dat 90 (.int .u64)), .o (.dat 2 (.int .i64))], .c (.o (.int .i64))]
def spec_l3Form.u (n : Nat) (v : VA spec_l3Form.a) (K : RES → Prop) : Prop := spec_l3Form.c n v.1 v.2.1.1 v.2.1.2.1 v.2.1.2.2.1 v.2.1.2.2.2.1 v.2.1.2.2.2.2.1 v.2.1.2.2.2.2.2.1 v.2.1.2.2.2.2.2.2.1 v.2.2.1 (fun r0 => K ⟨.c (.bool r0), []⟩)
abbrev spec_l3Form.l2.s : ST := ⟨[(0, .c (.o (.dat 112 (.prod .str (.int .i64))))), (2, .c (.o (.int .i64))), (4, .c (.o (.pbox 4 0))), (7, .c (.o (.int .i64)))], [], [⟨4, 79, [.o (.int .i64), .o (.int .i64), .o (.int .i64), .o (.int .i64), .o (.int .i64), .o (.dat 90 (.int .u64)), .o (.dat 2 (.int .i64))], false⟩], [], []⟩
def spec_l3Form.l2.u (n : Nat) (v : spec_l3Form.l2.s.V) (K : X → St → Prop) : Prop := spec_l3Form.l2 n v.1.1 v.1.2.1 v.2.2.1.1 v.2.2.1.2.1 v.2.2.1.2.2.1 v.2.2.1.2.2.2.1 v.2.2.1.2.2.2.2.1 v.2.2.1.2.2.2.2.2.1 v.2.2.1.2.2.2.2.2.2.1 v.1.2.2.2.1 (fun y0 y1 y2 y3 y4 y5 y6 y7 => K (.exit 0) ⟨[(0, .c (.dat 112 (.prod .str (.int .i64)) y0)), (4, .c (.pbox 4 0))], [], [(4, ⟨79, [.int .i64 y1, .int .i64 y2, .int .i64 y3, .int .i64 y4, .int .i64 y5, .dat 90 (.int .u64) y6, .dat 2 (.int .i64) y7], false⟩)], [], []⟩) (fun y0 => K .ret ⟨[(6, .c (.bool y0))], [], [], [], []⟩)
abbrev spec_l3Form.q7.s : ST := ⟨[(0, .c (.o (.dat 112 (.prod .str (.int .i64))))), (4, .c (.o (.pbox 4 0))), (63, .c (.o .bool))], [], [⟨4, 79, [.o (.int .i64), .o (.int .i64), .o (.int .i64), .o (.int .i64), .o (.int .i64), .o (.dat 90 (.int .u64)), .o (.dat 2 (.int .i64))], false⟩], [], []⟩
def spec_l3Form.q7.u (n : Nat) (v : spec_l3Form.q7.s.V) (K : X → St → Prop) : Prop := spec_l3Form.q7 n v.1.1 v.1.2.2.1 v.2.2.1.1 v.2.2.1.2.1 v.2.2.1.2.2.1 v.2.2.1.2.2.2.1 v.2.2.1.2.2.2.2.1 v.2.2.1.2.2.2.2.2.1 v.2.2.1.2.2.2.2.2.2.1 (fun y0 => K .ret ⟨[(6, .c (.bool y0))], [], [], [], []⟩) (fun y0 y1 y2 y3 y4 y5 y6 y7 => K .normal ⟨[(0, .c (.dat 112 (.prod .str (.int .i64)) y0)), (4, .c (.pbox 4 0))], [], [(4, ⟨79, [.int .i64 y1, .int .i64 y2, .int .i64 y3, .int .i64 y4, .int .i64 y5, .dat 90 (.int .u64) y6, .dat 2 (.int .i64) y7], false⟩)], [], []⟩)
abbrev spec_l3Form.q8.s : ST := ⟨[(0, .c (.o (.dat 112 (.prod .str (.int .i64))))), (4, .c (.o (.pbox 4 0)))], [], [⟨4, 79, [.o (.int .i64), .o (.int .i64), .o (.int .i64), .o (.int .i64), .o (.int .i64), .o (.dat 90 (.int .u64)), .o (.dat 2 (.int .i64))], false⟩], [], []⟩
def spec_l3Form.q8.u (n : Nat) (v : spec_l3Form.q8.s.V) (K : X → St → Prop) : Prop := spec_l3Form.q8 n v.1.1 v.2.2.1.1 v.2.2.1.2.1 v.2.2.1.2.2.1 v.2.2.1.2.2.2.1 v.2.2.1.2.2.2.2.1 v.2.2.1.2.2.2.2.2.1 v.2.2.1.2.2.2.2.2.2.1 (fun y0 => K .ret ⟨[(6, .c (.bool y0))], [], [], [], []⟩)
theorem spec_l3Form.l2_ok : ∀ n v K, spec_l3Form.l2.u n v K → loopM C X0 n 121 2 (spec_l3Form.l2.s.fill v) K :=
 loop_tell hX (fn := Try.f121) (c := bodyOf Try.f121) (a := loopOf Try.f121 2) (li := liOf (C.fi 121).loops 2) (by kernel_rfl) (by kernel_rfl) (of_decide_eq_true rfl) (by kernel_rfl) (by kernel_rfl) (T := spec_l3Form.l2.s) (u := spec_l3Form.l2.u) (fun _ _ h => h) (call := D25) (lp := fun n => noL) (D25_ok hX) (fun n => noL_ok) (fun n v K => by kernel_rfl)
theorem spec_l3Form.q7_ok : ∀ n v K, spec_l3Form.q7.u n v K → loopM C X0 n 121 1000007 (spec_l3Form.q7.s.fill v) K :=
 cut_tell hX (fn := Try.f121) (c := bodyOf Try.f121) (a := cutOf Try.f121 7) (li := liOf (C.fi 121).loops 1000007) (by kernel_rfl) (by kernel_rfl) (of_decide_eq_true rfl) (by kernel_rfl) (by kernel_rfl) (T := spec_l3Form.q7.s) (u := spec_l3Form.q7.u) (fun _ _ h => h) (call := D25) (lp := fun n => noL) (D25_ok hX) (fun n => noL_ok) (fun n v K => by kernel_rfl)
theorem spec_l3Form.q8_ok : ∀ n v K, spec_l3Form.q8.u n v K → loopM C X0 n 121 1000008 (spec_l3Form.q8.s.fill v) K :=
 cut_tell hX (fn := Try.f121) (c := bodyOf Try.f121) (a := cutOf Try.f121 8) (li := liOf (C.fi 121).loops 1000008) (by kernel_rfl) (by kernel_rfl) (of_decide_eq_true rfl) (by kernel_rfl) (by kernel_rfl) (T := spec_l3Form.q8.s) (u := spec_l3Form.q8.u) (fun _ _ h => h) (call := D25) (lp := fun n => noL) (D25_ok hX) (fun n => noL_ok) (fun n v K => by kernel_rfl)
theorem spec_l3Form_ok : ∀ n v K, spec_l3Form.u n v K → callM C X0 n 121 (fillA spec_l3Form.a v) K :=
 call_tell hX (fn := Try.f121) (c := bodyOf Try.f121) (by kernel_rfl) (by kernel_rfl) (A := spec_l3Form.a) (u := spec_l3Form.u) (fun _ _ h => h) (call := D25) (lp := fun n => orL 2 spec_l3Form.l2.s (spec_l3Form.l2.u n) (orL 1000007 spec_l3Form.q7.s (spec_l3Form.q7.u n) (orL 1000008 spec_l3Form.q8.s (spec_l3Form.q8.u n) noL))) (D25_ok hX) (fun n => (orL_ok (spec_l3Form.l2_ok hX n) (orL_ok (spec_l3Form.q7_ok hX n) (orL_ok (spec_l3Form.q8_ok hX n) noL_ok)))) (fun n v K => by kernel_rfl)
def D26 (n : Nat) : CallF := orC 121 spec_l3Form.a (spec_l3Form.u n) (D25 n)
theorem D26_ok : ∀ n g a K, D26 n g a K → callM C X0 n g a K := fun n => orC_ok (spec_l3Form_ok hX n) (D25_ok hX n)
abbrev spec_l3Wide.a : List TS := [.c (.o (.dat 112 (.prod .str (.int .i64)))), .a [.o (.int .i64), .o (.int .i64), .o (.int .i64), .o (.int .i64), .o (.int .i64), .o (.dat 90 (.int .u64)), .o (.dat 2 (.int .i64))], .c (.o (.dat 2 (.int .i64)))]
def spec_l3Wide.u (n : Nat) (v : VA spec_l3Wide.a) (K : RES → Prop) : Prop := spec_l3Wide.c n v.1 v.2.1.1 v.2.1.2.1 v.2.1.2.2.1 v.2.1.2.2.2.1 v.2.1.2.2.2.2.1 v.2.1.2.2.2.2.2.1 v.2.1.2.2.2.2.2.2.1 v.2.2.1 (fun r0 => K ⟨.c (.int .i64 r0), []⟩)
abbrev spec_l3Wide.l3.s : ST := ⟨[(0, .c (.o (.dat 112 (.prod .str (.int .i64))))), (2, .c (.o (.dat 2 (.int .i64)))), (4, .c (.o (.pbox 4 0))), (7, .c (.o (.int .i64))), (8, .c (.o (.int .i64)))], [], [⟨4, 79, [.o (.int .i64), .o (.int .i64), .o (.int .i64), .o (.int .i64), .o (.int .i64), .o (.dat 90 (.int .u64)), .o (.dat 2 (.int .i64))], false⟩], [], []⟩
def spec_l3Wide.l3.u (n : Nat) (v : spec_l3Wide.l3.s.V) (K : X → St → Prop) : Prop := spec_l3Wide.l3 n v.1.1 v.1.2.1 v.2.2.1.1 v.2.2.1.2.1 v.2.2.1.2.2.1 v.2.2.1.2.2.2.1 v.2.2.1.2.2.2.2.1 v.2.2.1.2.2.2.2.2.1 v.2.2.1.2.2.2.2.2.2.1 v.1.2.2.2.1 v.1.2.2.2.2.1 (fun y0 y1 y2 y3 y4 y5 y6 y7 y8 => K (.exit 0) ⟨[(0, .c (.dat 112 (.prod .str (.int .i64)) y0)), (4, .c (.pbox 4 0)), (7, .c (.int .i64 y1))], [], [(4, ⟨79, [.int .i64 y2, .int .i64 y3, .int .i64 y4, .int .i64 y5, .int .i64 y6, .dat 90 (.int .u64) y7, .dat 2 (.int .i64) y8], false⟩)], [], []⟩)
theorem spec_l3Wide.l3_ok : ∀ n v K, spec_l3Wide.l3.u n v K → loopM C X0 n 122 3 (spec_l3Wide.l3.s.fill v) K :=
 loop_tell hX (fn := Try.f122) (c := bodyOf Try.f122) (a := loopOf Try.f122 3) (li := liOf (C.fi 122).loops 3) (by kernel_rfl) (by kernel_rfl) (of_decide_eq_true rfl) (by kernel_rfl) (by kernel_rfl) (T := spec_l3Wide.l3.s) (u := spec_l3Wide.l3.u) (fun _ _ h => h) (call := D26) (lp := fun n => noL) (D26_ok hX) (fun n => noL_ok) (fun n v K => by kernel_rfl)
theorem spec_l3Wide_ok : ∀ n v K, spec_l3Wide.u n v K → callM C X0 n 122 (fillA spec_l3Wide.a v) K :=
 call_tell hX (fn := Try.f122) (c := bodyOf Try.f122) (by kernel_rfl) (by kernel_rfl) (A := spec_l3Wide.a) (u := spec_l3Wide.u) (fun _ _ h => h) (call := D26) (lp := fun n => orL 3 spec_l3Wide.l3.s (spec_l3Wide.l3.u n) noL) (D26_ok hX) (fun n => (orL_ok (spec_l3Wide.l3_ok hX n) noL_ok)) (fun n v K => by kernel_rfl)
def D27 (n : Nat) : CallF := orC 122 spec_l3Wide.a (spec_l3Wide.u n) (D26 n)
theorem D27_ok : ∀ n g a K, D27 n g a K → callM C X0 n g a K := fun n => orC_ok (spec_l3Wide_ok hX n) (D26_ok hX n)
abbrev spec_l3Widths.a : List TS := [.c (.o (.dat 112 (.prod .str (.int .i64)))), .a [.o (.dat 79 (.prod (.int .i64) (.prod (.int .i64) (.prod (.int .i64) (.prod (.int .i64) (.prod (.int .i64) (.prod (.sl 90 (.int .u64)) (.sl 2 (.int .i64)))))))))]]
def spec_l3Widths.u (n : Nat) (v : VA spec_l3Widths.a) (K : RES → Prop) : Prop := spec_l3Widths.c n v.1 v.2.1.1 (fun r0 => K ⟨.c (.row ⟨2, .int .i64, r0, 99, none⟩), []⟩)
abbrev spec_l3Widths.l16.s : ST := ⟨[(0, .c (.o (.dat 112 (.prod .str (.int .i64))))), (3, .c (.o (.pbox 3 0))), (5, .c (.o (.own 384))), (6, .c (.o (.own 2112))), (7, .c (.o (.own 1056))), (8, .c (.o (.int .i64))), (10, .c (.o (.int .i64)))], [⟨384, 2, .int .i64, 99⟩, ⟨1056, 4, .bool, 99⟩, ⟨2112, 2, .int .i64, 99⟩], [⟨3, 28, [.o (.dat 79 (.prod (.int .i64) (.prod (.int .i64) (.prod (.int .i64) (.prod (.int .i64) (.prod (.int .i64) (.prod (.sl 90 (.int .u64)) (.sl 2 (.int .i64)))))))))], false⟩], [], []⟩
def spec_l3Widths.l16.u (n : Nat) (v : spec_l3Widths.l16.s.V) (K : X → St → Prop) : Prop := spec_l3Widths.l16 n v.1.1 v.1.2.2.2.2.2.1 v.2.1.1 v.2.1.2.2.1 v.2.2.1.1 v.1.2.2.2.2.2.2.1 v.2.1.2.1 (fun y0 y1 y2 y3 y4 y5 => K (.exit 2) ⟨[(0, .c (.dat 112 (.prod .str (.int .i64)) y0)), (3, .c (.pbox 3 0)), (5, .c (.own 384)), (6, .c (.own 2112)), (7, .c (.own 1056)), (8, .c (.int .i64 y1))], [(384, ⟨2, .int .i64, y2, 99, none⟩), (1056, ⟨4, .bool, y3, 99, none⟩), (2112, ⟨2, .int .i64, y4, 99, none⟩)], [(3, ⟨28, [.dat 79 (.prod (.int .i64) (.prod (.int .i64) (.prod (.int .i64) (.prod (.int .i64) (.prod (.int .i64) (.prod (.sl 90 (.int .u64)) (.sl 2 (.int .i64)))))))) y5], false⟩)], [], []⟩)
abbrev spec_l3Widths.l7.s : ST := ⟨[(0, .c (.o (.dat 112 (.prod .str (.int .i64))))), (3, .c (.o (.pbox 3 0))), (5, .c (.o (.own 384))), (6, .c (.o (.own 192))), (7, .c (.o (.own 1056))), (8, .c (.o (.int .i64)))], [⟨192, 2, .int .i64, 99⟩, ⟨384, 2, .int .i64, 99⟩, ⟨1056, 4, .bool, 99⟩], [⟨3, 28, [.o (.dat 79 (.prod (.int .i64) (.prod (.int .i64) (.prod (.int .i64) (.prod (.int .i64) (.prod (.int .i64) (.prod (.sl 90 (.int .u64)) (.sl 2 (.int .i64)))))))))], false⟩], [], []⟩
def spec_l3Widths.l7.u (n : Nat) (v : spec_l3Widths.l7.s.V) (K : X → St → Prop) : Prop := spec_l3Widths.l7 n v.1.1 v.1.2.2.2.2.2.1 v.2.1.1 v.2.1.2.1 v.2.1.2.2.1 v.2.2.1.1 (fun y0 y1 y2 => K (.exit 0) ⟨[(5, .c (.own 384)), (6, .c (.own 192)), (7, .c (.own 1056))], [(192, ⟨2, .int .i64, y0, 99, none⟩), (384, ⟨2, .int .i64, y1, 99, none⟩), (1056, ⟨4, .bool, y2, 99, none⟩)], [], [], []⟩) (fun y0 => K .ret ⟨[(4, .c (.own 384))], [(384, ⟨2, .int .i64, y0, 99, none⟩)], [], [], []⟩)
abbrev spec_l3Widths.l20.s : ST := ⟨[(5, .c (.o (.own 384))), (6, .c (.o (.own 192))), (7, .c (.o (.own 1056))), (11, .c (.o (.int .i64)))], [⟨192, 2, .int .i64, 99⟩, ⟨384, 2, .int .i64, 99⟩, ⟨1056, 4, .bool, 99⟩], [], [], []⟩
def spec_l3Widths.l20.u (n : Nat) (v : spec_l3Widths.l20.s.V) (K : X → St → Prop) : Prop := spec_l3Widths.l20 n v.2.1.1 v.2.1.2.1 v.2.1.2.2.1 v.1.2.2.2.1 (fun y0 => K (.exit 4) ⟨[(6, .c (.own 192))], [(192, ⟨2, .int .i64, y0, 99, none⟩)], [], [], []⟩) (fun y0 => K .ret ⟨[(4, .c (.own 384))], [(384, ⟨2, .int .i64, y0, 99, none⟩)], [], [], []⟩)
theorem spec_l3Widths.l16_ok : ∀ n v K, spec_l3Widths.l16.u n v K → loopM C X0 n 90 16 (spec_l3Widths.l16.s.fill v) K :=
 loop_tell hX (fn := Try.f90) (c := bodyOf Try.f90) (a := loopOf Try.f90 16) (li := liOf (C.fi 90).loops 16) (by kernel_rfl) (by kernel_rfl) (of_decide_eq_true rfl) (by kernel_rfl) (by kernel_rfl) (T := spec_l3Widths.l16.s) (u := spec_l3Widths.l16.u) (fun _ _ h => h) (call := D27) (lp := fun n => noL) (D27_ok hX) (fun n => noL_ok) (fun n v K => by kernel_rfl)
theorem spec_l3Widths.l7_ok : ∀ n v K, spec_l3Widths.l7.u n v K → loopM C X0 n 90 7 (spec_l3Widths.l7.s.fill v) K :=
 loop_tell hX (fn := Try.f90) (c := bodyOf Try.f90) (a := loopOf Try.f90 7) (li := liOf (C.fi 90).loops 7) (by kernel_rfl) (by kernel_rfl) (of_decide_eq_true rfl) (by kernel_rfl) (by kernel_rfl) (T := spec_l3Widths.l7.s) (u := spec_l3Widths.l7.u) (fun _ _ h => h) (call := D27) (lp := fun n => orL 16 spec_l3Widths.l16.s (spec_l3Widths.l16.u n) noL) (D27_ok hX) (fun n => (orL_ok (spec_l3Widths.l16_ok hX n) noL_ok)) (fun n v K => by kernel_rfl)
theorem spec_l3Widths.l20_ok : ∀ n v K, spec_l3Widths.l20.u n v K → loopM C X0 n 90 20 (spec_l3Widths.l20.s.fill v) K :=
 loop_tell hX (fn := Try.f90) (c := bodyOf Try.f90) (a := loopOf Try.f90 20) (li := liOf (C.fi 90).loops 20) (by kernel_rfl) (by kernel_rfl) (of_decide_eq_true rfl) (by kernel_rfl) (by kernel_rfl) (T := spec_l3Widths.l20.s) (u := spec_l3Widths.l20.u) (fun _ _ h => h) (call := D27) (lp := fun n => noL) (D27_ok hX) (fun n => noL_ok) (fun n v K => by kernel_rfl)
theorem spec_l3Widths_ok : ∀ n v K, spec_l3Widths.u n v K → callM C X0 n 90 (fillA spec_l3Widths.a v) K :=
 call_tell hX (fn := Try.f90) (c := bodyOf Try.f90) (by kernel_rfl) (by kernel_rfl) (A := spec_l3Widths.a) (u := spec_l3Widths.u) (fun _ _ h => h) (call := D27) (lp := fun n => orL 7 spec_l3Widths.l7.s (spec_l3Widths.l7.u n) (orL 20 spec_l3Widths.l20.s (spec_l3Widths.l20.u n) noL)) (D27_ok hX) (fun n => (orL_ok (spec_l3Widths.l7_ok hX n) (orL_ok (spec_l3Widths.l20_ok hX n) noL_ok))) (fun n v K => by kernel_rfl)
def D28 (n : Nat) : CallF := orC 90 spec_l3Widths.a (spec_l3Widths.u n) (D27 n)
theorem D28_ok : ∀ n g a K, D28 n g a K → callM C X0 n g a K := fun n => orC_ok (spec_l3Widths_ok hX n) (D27_ok hX n)
abbrev spec_WidthOf.a : List TS := [.c (.o (.dat 112 (.prod .str (.int .i64)))), .a [.o (.dat 79 (.prod (.int .i64) (.prod (.int .i64) (.prod (.int .i64) (.prod (.int .i64) (.prod (.int .i64) (.prod (.sl 90 (.int .u64)) (.sl 2 (.int .i64)))))))))]]
def spec_WidthOf.u (n : Nat) (v : VA spec_WidthOf.a) (K : RES → Prop) : Prop := spec_WidthOf.c n v.1 v.2.1.1 (fun r0 => K ⟨.c (.int .i64 r0), []⟩)
theorem spec_WidthOf_ok : ∀ n v K, spec_WidthOf.u n v K → callM C X0 n 44 (fillA spec_WidthOf.a v) K :=
 call_tell hX (fn := Try.f44) (c := bodyOf Try.f44) (by kernel_rfl) (by kernel_rfl) (A := spec_WidthOf.a) (u := spec_WidthOf.u) (fun _ _ h => h) (call := D28) (lp := fun n => noL) (D28_ok hX) (fun n => noL_ok) (fun n v K => by kernel_rfl)
def D29 (n : Nat) : CallF := orC 44 spec_WidthOf.a (spec_WidthOf.u n) (D28 n)
theorem D29_ok : ∀ n g a K, D29 n g a K → callM C X0 n g a K := fun n => orC_ok (spec_WidthOf_ok hX n) (D28_ok hX n)
abbrev spec_l3Fit.a : List TS := [.c (.o (.row 79 (.prod (.int .i64) (.prod (.int .i64) (.prod (.int .i64) (.prod (.int .i64) (.prod (.int .i64) (.prod (.sl 90 (.int .u64)) (.sl 2 (.int .i64)))))))) 99)), .c (.o (.int .i64)), .c (.o (.int .i64)), .c (.o (.int .i64))]
def spec_l3Fit.u (n : Nat) (v : VA spec_l3Fit.a) (K : RES → Prop) : Prop := spec_l3Fit.c n v.1 v.2.1 v.2.2.1 v.2.2.2.1 (fun r0 => K ⟨.c (.row ⟨79, .prod (.int .i64) (.prod (.int .i64) (.prod (.int .i64) (.prod (.int .i64) (.prod (.int .i64) (.prod (.sl 90 (.int .u64)) (.sl 2 (.int .i64))))))), r0, 99, none⟩), []⟩)
theorem spec_l3Fit_ok : ∀ n v K, spec_l3Fit.u n v K → callM C X0 n 120 (fillA spec_l3Fit.a v) K :=
 call_tell hX (fn := Try.f120) (c := bodyOf Try.f120) (by kernel_rfl) (by kernel_rfl) (A := spec_l3Fit.a) (u := spec_l3Fit.u) (fun _ _ h => h) (call := D29) (lp := fun n => noL) (D29_ok hX) (fun n => noL_ok) (fun n v K => by kernel_rfl)
def D30 (n : Nat) : CallF := orC 120 spec_l3Fit.a (spec_l3Fit.u n) (D29 n)
theorem D30_ok : ∀ n g a K, D30 n g a K → callM C X0 n g a K := fun n => orC_ok (spec_l3Fit_ok hX n) (D29_ok hX n)
abbrev spec_l3Grow.a : List TS := [.c (.boxr 107 [.dat 5 (.int .u8), .int .i64]), .c (.o (.dat 112 (.prod .str (.int .i64)))), .c (.o (.int .i64))]
def spec_l3Grow.u (n : Nat) (v : VA spec_l3Grow.a) (K : RES → Prop) : Prop := spec_l3Grow.c n v.1.1 v.1.2.1 v.2.1 v.2.2.1 (fun r0 r1 r2 => K ⟨.agg [.row ⟨79, .prod (.int .i64) (.prod (.int .i64) (.prod (.int .i64) (.prod (.int .i64) (.prod (.int .i64) (.prod (.sl 90 (.int .u64)) (.sl 2 (.int .i64))))))), r0, 99, none⟩], [[.boxr 107 [.dat 5 (.int .u8) r1, .int .i64 r2]]]⟩)
abbrev spec_l3Grow.q34.s : ST := ⟨[(0, .c (.o (.pbox 0 0))), (1, .c (.o (.dat 112 (.prod .str (.int .i64))))), (2, .c (.o (.int .i64))), (6, .c (.o (.pbox 6 0))), (7, .c (.o (.own 224))), (8, .c (.o (.int .i64))), (9, .c (.o (.int .i64))), (10, .c (.o (.int .i64))), (13, .c (.o (.pbox 13 0))), (65, .c (.o (.int .i64))), (117, .c (.o .bool))], [⟨224, 79, .prod (.int .i64) (.prod (.int .i64) (.prod (.int .i64) (.prod (.int .i64) (.prod (.int .i64) (.prod (.sl 90 (.int .u64)) (.sl 2 (.int .i64))))))), 99⟩, ⟨1984, 2, .int .i64, 99⟩, ⟨2021, 90, .int .u64, 99⟩, ⟨1000192, 79, .prod (.int .i64) (.prod (.int .i64) (.prod (.int .i64) (.prod (.int .i64) (.prod (.int .i64) (.prod (.sl 90 (.int .u64)) (.sl 2 (.int .i64))))))), 99⟩], [⟨0, 107, [.o (.dat 5 (.int .u8)), .o (.int .i64)], false⟩, ⟨6, 28, [.o (.own 1000192)], false⟩, ⟨13, 79, [.o (.int .i64), .o (.int .i64), .o (.int .i64), .o (.int .i64), .o (.int .i64), .o (.own 2021), .o (.own 1984)], false⟩], [], [0]⟩
def spec_l3Grow.q34.u (n : Nat) (v : spec_l3Grow.q34.s.V) (K : X → St → Prop) : Prop := spec_l3Grow.q34 n v.1.2.1 v.1.2.2.1 v.1.2.2.2.2.2.1 v.1.2.2.2.2.2.2.1 v.1.2.2.2.2.2.2.2.1 v.1.2.2.2.2.2.2.2.2.2.1 v.1.2.2.2.2.2.2.2.2.2.2.1 v.2.1.1 v.2.1.2.1 v.2.1.2.2.1 v.2.1.2.2.2.1 v.2.2.1.1 v.2.2.1.2.1 v.2.2.2.2.1.1 v.2.2.2.2.1.2.1 v.2.2.2.2.1.2.2.1 v.2.2.2.2.1.2.2.2.1 v.2.2.2.2.1.2.2.2.2.1 (fun y0 y1 y2 y3 y4 y5 y6 y7 y8 y9 y10 y11 y12 y13 y14 y15 => K .normal ⟨[(0, .c (.pbox 0 0)), (1, .c (.dat 112 (.prod .str (.int .i64)) y0)), (2, .c (.int .i64 y1)), (6, .c (.pbox 6 0)), (7, .c (.own 224)), (8, .c (.int .i64 y2)), (9, .c (.int .i64 y3)), (10, .c (.int .i64 y4)), (13, .c (.pbox 13 0))], [(224, ⟨79, .prod (.int .i64) (.prod (.int .i64) (.prod (.int .i64) (.prod (.int .i64) (.prod (.int .i64) (.prod (.sl 90 (.int .u64)) (.sl 2 (.int .i64))))))), y5, 99, none⟩), (1984, ⟨2, .int .i64, y6, 99, none⟩), (2021, ⟨90, .int .u64, y7, 99, none⟩), (1000192, ⟨79, .prod (.int .i64) (.prod (.int .i64) (.prod (.int .i64) (.prod (.int .i64) (.prod (.int .i64) (.prod (.sl 90 (.int .u64)) (.sl 2 (.int .i64))))))), y8, 99, none⟩)], [(0, ⟨107, [.dat 5 (.int .u8) y9, .int .i64 y10], false⟩), (6, ⟨28, [.own 1000192], false⟩), (13, ⟨79, [.int .i64 y11, .int .i64 y12, .int .i64 y13, .int .i64 y14, .int .i64 y15, .own 2021, .own 1984], false⟩)], [], [0]⟩)
abbrev spec_l3Grow.l5.s : ST := ⟨[(0, .c (.o (.pbox 0 0))), (1, .c (.o (.dat 112 (.prod .str (.int .i64))))), (2, .c (.o (.int .i64))), (6, .c (.o (.pbox 6 0))), (7, .c (.o (.own 224))), (8, .c (.o (.int .i64))), (9, .c (.o (.int .i64))), (10, .c (.o (.int .i64)))], [⟨224, 79, .prod (.int .i64) (.prod (.int .i64) (.prod (.int .i64) (.prod (.int .i64) (.prod (.int .i64) (.prod (.sl 90 (.int .u64)) (.sl 2 (.int .i64))))))), 99⟩, ⟨1000192, 79, .prod (.int .i64) (.prod (.int .i64) (.prod (.int .i64) (.prod (.int .i64) (.prod (.int .i64) (.prod (.sl 90 (.int .u64)) (.sl 2 (.int .i64))))))), 99⟩], [⟨0, 107, [.o (.dat 5 (.int .u8)), .o (.int .i64)], false⟩, ⟨6, 28, [.o (.own 1000192)], false⟩], [], [0]⟩
def spec_l3Grow.l5.u (n : Nat) (v : spec_l3Grow.l5.s.V) (K : X → St → Prop) : Prop := spec_l3Grow.l5 n v.1.2.1 v.1.2.2.1 v.1.2.2.2.2.2.1 v.1.2.2.2.2.2.2.1 v.1.2.2.2.2.2.2.2.1 v.2.1.1 v.2.1.2.1 v.2.2.1.1 v.2.2.1.2.1 (fun y0 y1 y2 y3 y4 y5 y6 => K (.exit 0) ⟨[(1, .c (.dat 112 (.prod .str (.int .i64)) y0)), (2, .c (.int .i64 y1)), (6, .c (.pbox 6 0)), (7, .c (.own 224)), (8, .c (.int .i64 y2))], [(224, ⟨79, .prod (.int .i64) (.prod (.int .i64) (.prod (.int .i64) (.prod (.int .i64) (.prod (.int .i64) (.prod (.sl 90 (.int .u64)) (.sl 2 (.int .i64))))))), y3, 99, none⟩), (1000192, ⟨79, .prod (.int .i64) (.prod (.int .i64) (.prod (.int .i64) (.prod (.int .i64) (.prod (.int .i64) (.prod (.sl 90 (.int .u64)) (.sl 2 (.int .i64))))))), y4, 99, none⟩)], [(0, ⟨107, [.dat 5 (.int .u8) y5, .int .i64 y6], false⟩), (6, ⟨28, [.own 1000192], false⟩)], [], [0]⟩)
theorem spec_l3Grow.q34_ok : ∀ n v K, spec_l3Grow.q34.u n v K → loopM C X0 n 89 1000034 (spec_l3Grow.q34.s.fill v) K :=
 cut_tell hX (fn := Try.f89) (c := bodyOf Try.f89) (a := cutOf Try.f89 34) (li := liOf (C.fi 89).loops 1000034) (by kernel_rfl) (by kernel_rfl) (of_decide_eq_true rfl) (by kernel_rfl) (by kernel_rfl) (T := spec_l3Grow.q34.s) (u := spec_l3Grow.q34.u) (fun _ _ h => h) (call := D30) (lp := fun n => noL) (D30_ok hX) (fun n => noL_ok) (fun n v K => by kernel_rfl)
theorem spec_l3Grow.l5_ok : ∀ n v K, spec_l3Grow.l5.u n v K → loopM C X0 n 89 5 (spec_l3Grow.l5.s.fill v) K :=
 loop_tell hX (fn := Try.f89) (c := bodyOf Try.f89) (a := loopOf Try.f89 5) (li := liOf (C.fi 89).loops 5) (by kernel_rfl) (by kernel_rfl) (of_decide_eq_true rfl) (by kernel_rfl) (by kernel_rfl) (T := spec_l3Grow.l5.s) (u := spec_l3Grow.l5.u) (fun _ _ h => h) (call := D30) (lp := fun n => orL 1000034 spec_l3Grow.q34.s (spec_l3Grow.q34.u n) noL) (D30_ok hX) (fun n => (orL_ok (spec_l3Grow.q34_ok hX n) noL_ok)) (fun n v K => by kernel_rfl)
theorem spec_l3Grow_ok : ∀ n v K, spec_l3Grow.u n v K → callM C X0 n 89 (fillA spec_l3Grow.a v) K :=
 call_tell hX (fn := Try.f89) (c := bodyOf Try.f89) (by kernel_rfl) (by kernel_rfl) (A := spec_l3Grow.a) (u := spec_l3Grow.u) (fun _ _ h => h) (call := D30) (lp := fun n => orL 5 spec_l3Grow.l5.s (spec_l3Grow.l5.u n) noL) (D30_ok hX) (fun n => (orL_ok (spec_l3Grow.l5_ok hX n) noL_ok)) (fun n v K => by kernel_rfl)
def D31 (n : Nat) : CallF := orC 89 spec_l3Grow.a (spec_l3Grow.u n) (D30 n)
theorem D31_ok : ∀ n g a K, D31 n g a K → callM C X0 n g a K := fun n => orC_ok (spec_l3Grow_ok hX n) (D30_ok hX n)
abbrev spec_l4Literal.a : List TS := [.c (.boxr 107 [.dat 5 (.int .u8), .int .i64]), .c (.o (.dat 112 (.prod .str (.int .i64)))), .c (.o (.int .i64))]
def spec_l4Literal.u (n : Nat) (v : VA spec_l4Literal.a) (K : RES → Prop) : Prop := spec_l4Literal.c n v.1.1 v.1.2.1 v.2.1 v.2.2.1 (fun r0 r1 r2 r3 r4 r5 => K ⟨.agg [.int .i64 r0, .bool r1, .row ⟨79, .prod (.int .i64) (.prod (.int .i64) (.prod (.int .i64) (.prod (.int .i64) (.prod (.int .i64) (.prod (.sl 90 (.int .u64)) (.sl 2 (.int .i64))))))), r2, 99, none⟩, .row ⟨79, .prod (.int .i64) (.prod (.int .i64) (.prod (.int .i64) (.prod (.int .i64) (.prod (.int .i64) (.prod (.sl 90 (.int .u64)) (.sl 2 (.int .i64))))))), r3, 99, none⟩], [[.boxr 107 [.dat 5 (.int .u8) r4, .int .i64 r5]]]⟩)
theorem spec_l4Literal_ok : ∀ n v K, spec_l4Literal.u n v K → callM C X0 n 110 (fillA spec_l4Literal.a v) K :=
 call_tell hX (fn := Try.f110) (c := bodyOf Try.f110) (by kernel_rfl) (by kernel_rfl) (A := spec_l4Literal.a) (u := spec_l4Literal.u) (fun _ _ h => h) (call := D31) (lp := fun n => noL) (D31_ok hX) (fun n => noL_ok) (fun n v K => by kernel_rfl)
def D32 (n : Nat) : CallF := orC 110 spec_l4Literal.a (spec_l4Literal.u n) (D31 n)
theorem D32_ok : ∀ n g a K, D32 n g a K → callM C X0 n g a K := fun n => orC_ok (spec_l4Literal_ok hX n) (D31_ok hX n)
abbrev spec_l1Rd_literals.a : List TS := [.c (.boxr 107 [.dat 5 (.int .u8), .int .i64]), .c (.o (.dat 112 (.prod .str (.int .i64)))), .c (.o (.int .i64))]
def spec_l1Rd_literals.u (n : Nat) (v : VA spec_l1Rd_literals.a) (K : RES → Prop) : Prop := spec_l1Rd_literals.c n v.1.1 v.1.2.1 v.2.1 v.2.2.1 (fun r0 r1 r2 => K ⟨.c (.row ⟨30, .prod (.int .i64) (.prod .bool (.prod (.sl 79 (.prod (.int .i64) (.prod (.int .i64) (.prod (.int .i64) (.prod (.int .i64) (.prod (.int .i64) (.prod (.sl 90 (.int .u64)) (.sl 2 (.int .i64))))))))) (.sl 79 (.prod (.int .i64) (.prod (.int .i64) (.prod (.int .i64) (.prod (.int .i64) (.prod (.int .i64) (.prod (.sl 90 (.int .u64)) (.sl 2 (.int .i64))))))))))), r0, 99, none⟩), [[.boxr 107 [.dat 5 (.int .u8) r1, .int .i64 r2]]]⟩)
abbrev spec_l1Rd_literals.l4.s : ST := ⟨[(0, .c (.o (.pbox 0 0))), (1, .c (.o (.dat 112 (.prod .str (.int .i64))))), (7, .c (.o (.own 224))), (8, .c (.o (.int .i64))), (9, .c (.o (.int .i64)))], [⟨224, 30, .prod (.int .i64) (.prod .bool (.prod (.sl 79 (.prod (.int .i64) (.prod (.int .i64) (.prod (.int .i64) (.prod (.int .i64) (.prod (.int .i64) (.prod (.sl 90 (.int .u64)) (.sl 2 (.int .i64))))))))) (.sl 79 (.prod (.int .i64) (.prod (.int .i64) (.prod (.int .i64) (.prod (.int .i64) (.prod (.int .i64) (.prod (.sl 90 (.int .u64)) (.sl 2 (.int .i64))))))))))), 99⟩], [⟨0, 107, [.o (.dat 5 (.int .u8)), .o (.int .i64)], false⟩], [], [0]⟩
def spec_l1Rd_literals.l4.u (n : Nat) (v : spec_l1Rd_literals.l4.s.V) (K : X → St → Prop) : Prop := spec_l1Rd_literals.l4 n v.1.2.1 v.1.2.2.2.1 v.1.2.2.2.2.1 v.2.1.1 v.2.2.1.1 v.2.2.1.2.1 (fun y0 y1 y2 => K (.exit 0) ⟨[(7, .c (.own 224))], [(224, ⟨30, .prod (.int .i64) (.prod .bool (.prod (.sl 79 (.prod (.int .i64) (.prod (.int .i64) (.prod (.int .i64) (.prod (.int .i64) (.prod (.int .i64) (.prod (.sl 90 (.int .u64)) (.sl 2 (.int .i64))))))))) (.sl 79 (.prod (.int .i64) (.prod (.int .i64) (.prod (.int .i64) (.prod (.int .i64) (.prod (.int .i64) (.prod (.sl 90 (.int .u64)) (.sl 2 (.int .i64))))))))))), y0, 99, none⟩)], [(0, ⟨107, [.dat 5 (.int .u8) y1, .int .i64 y2], false⟩)], [], [0]⟩)
theorem spec_l1Rd_literals.l4_ok : ∀ n v K, spec_l1Rd_literals.l4.u n v K → loopM C X0 n 81 4 (spec_l1Rd_literals.l4.s.fill v) K :=
 loop_tell hX (fn := Try.f81) (c := bodyOf Try.f81) (a := loopOf Try.f81 4) (li := liOf (C.fi 81).loops 4) (by kernel_rfl) (by kernel_rfl) (of_decide_eq_true rfl) (by kernel_rfl) (by kernel_rfl) (T := spec_l1Rd_literals.l4.s) (u := spec_l1Rd_literals.l4.u) (fun _ _ h => h) (call := D32) (lp := fun n => noL) (D32_ok hX) (fun n => noL_ok) (fun n v K => by kernel_rfl)
theorem spec_l1Rd_literals_ok : ∀ n v K, spec_l1Rd_literals.u n v K → callM C X0 n 81 (fillA spec_l1Rd_literals.a v) K :=
 call_tell hX (fn := Try.f81) (c := bodyOf Try.f81) (by kernel_rfl) (by kernel_rfl) (A := spec_l1Rd_literals.a) (u := spec_l1Rd_literals.u) (fun _ _ h => h) (call := D32) (lp := fun n => orL 4 spec_l1Rd_literals.l4.s (spec_l1Rd_literals.l4.u n) noL) (D32_ok hX) (fun n => (orL_ok (spec_l1Rd_literals.l4_ok hX n) noL_ok)) (fun n v K => by kernel_rfl)
def D33 (n : Nat) : CallF := orC 81 spec_l1Rd_literals.a (spec_l1Rd_literals.u n) (D32 n)
theorem D33_ok : ∀ n g a K, D33 n g a K → callM C X0 n g a K := fun n => orC_ok (spec_l1Rd_literals_ok hX n) (D32_ok hX n)
end
end Go.Vsi
end

section
set_option linter.unusedVariables false
namespace Go.Vsi
open Go.Proofs
section
variable {X0 : CallF} (hX : CallF.Mono X0)
include hX
abbrev spec_l1Rd_oddTerm.a : List TS := [.c (.boxr 107 [.dat 5 (.int .u8), .int .i64]), .c (.o (.dat 112 (.prod .str (.int .i64)))), .c (.o (.int .i64))]
def spec_l1Rd_oddTerm.u (n : Nat) (v : VA spec_l1Rd_oddTerm.a) (K : RES → Prop) : Prop := spec_l1Rd_oddTerm.c n v.1.1 v.1.2.1 v.2.1 v.2.2.1 (fun r0 r1 r2 => K ⟨.agg [.row ⟨79, .prod (.int .i64) (.prod (.int .i64) (.prod (.int .i64) (.prod (.int .i64) (.prod (.int .i64) (.prod (.sl 90 (.int .u64)) (.sl 2 (.int .i64))))))), r0, 99, none⟩], [[.boxr 107 [.dat 5 (.int .u8) r1, .int .i64 r2]]]⟩)
abbrev spec_l1Rd_oddTerm.q27.s : ST := ⟨[(6, .c (.o (.pbox 6 0))), (7, .c (.o (.pbox 7 0)))], [⟨480, 79, .prod (.int .i64) (.prod (.int .i64) (.prod (.int .i64) (.prod (.int .i64) (.prod (.int .i64) (.prod (.sl 90 (.int .u64)) (.sl 2 (.int .i64))))))), 99⟩, ⟨1000192, 79, .prod (.int .i64) (.prod (.int .i64) (.prod (.int .i64) (.prod (.int .i64) (.prod (.int .i64) (.prod (.sl 90 (.int .u64)) (.sl 2 (.int .i64))))))), 99⟩], [⟨0, 107, [.o (.dat 5 (.int .u8)), .o (.int .i64)], false⟩, ⟨6, 28, [.o (.own 1000192)], false⟩, ⟨7, 28, [.o (.own 480)], false⟩], [], [0]⟩
def spec_l1Rd_oddTerm.q27.u (n : Nat) (v : spec_l1Rd_oddTerm.q27.s.V) (K : X → St → Prop) : Prop := spec_l1Rd_oddTerm.q27 n v.2.1.1 v.2.1.2.1 v.2.2.1.1 v.2.2.1.2.1 (fun y0 y1 y2 => K .ret ⟨[(6, .c (.pbox 6 0))], [(480, ⟨79, .prod (.int .i64) (.prod (.int .i64) (.prod (.int .i64) (.prod (.int .i64) (.prod (.int .i64) (.prod (.sl 90 (.int .u64)) (.sl 2 (.int .i64))))))), y0, 99, none⟩)], [(0, ⟨107, [.dat 5 (.int .u8) y1, .int .i64 y2], false⟩), (6, ⟨28, [.own 480], false⟩)], [], [0]⟩)
abbrev spec_l1Rd_oddTerm.q27_1.s : ST := ⟨[(6, .c (.o (.pbox 6 0))), (7, .c (.o (.pbox 7 0)))], [⟨2784, 79, .prod (.int .i64) (.prod (.int .i64) (.prod (.int .i64) (.prod (.int .i64) (.prod (.int .i64) (.prod (.sl 90 (.int .u64)) (.sl 2 (.int .i64))))))), 99⟩, ⟨1000192, 79, .prod (.int .i64) (.prod (.int .i64) (.prod (.int .i64) (.prod (.int .i64) (.prod (.int .i64) (.prod (.sl 90 (.int .u64)) (.sl 2 (.int .i64))))))), 99⟩], [⟨0, 107, [.o (.dat 5 (.int .u8)), .o (.int .i64)], false⟩, ⟨6, 28, [.o (.own 1000192)], false⟩, ⟨7, 28, [.o (.own 2784)], false⟩], [], [0]⟩
def spec_l1Rd_oddTerm.q27_1.u (n : Nat) (v : spec_l1Rd_oddTerm.q27_1.s.V) (K : X → St → Prop) : Prop := spec_l1Rd_oddTerm.q27_1 n v.2.1.1 v.2.1.2.1 v.2.2.1.1 v.2.2.1.2.1 (fun y0 y1 y2 => K .ret ⟨[(6, .c (.pbox 6 0))], [(2784, ⟨79, .prod (.int .i64) (.prod (.int .i64) (.prod (.int .i64) (.prod (.int .i64) (.prod (.int .i64) (.prod (.sl 90 (.int .u64)) (.sl 2 (.int .i64))))))), y0, 99, none⟩)], [(0, ⟨107, [.dat 5 (.int .u8) y1, .int .i64 y2], false⟩), (6, ⟨28, [.own 2784], false⟩)], [], [0]⟩)
abbrev spec_l1Rd_oddTerm.l17.s : ST := ⟨[(0, .c (.o (.pbox 0 0))), (6, .c (.o (.pbox 6 0))), (7, .c (.o (.pbox 7 0)))], [⟨1000192, 79, .prod (.int .i64) (.prod (.int .i64) (.prod (.int .i64) (.prod (.int .i64) (.prod (.int .i64) (.prod (.sl 90 (.int .u64)) (.sl 2 (.int .i64))))))), 99⟩, ⟨1000224, 79, .prod (.int .i64) (.prod (.int .i64) (.prod (.int .i64) (.prod (.int .i64) (.prod (.int .i64) (.prod (.sl 90 (.int .u64)) (.sl 2 (.int .i64))))))), 99⟩], [⟨0, 107, [.o (.dat 5 (.int .u8)), .o (.int .i64)], false⟩, ⟨6, 28, [.o (.own 1000192)], false⟩, ⟨7, 28, [.o (.own 1000224)], false⟩], [], [0]⟩
def spec_l1Rd_oddTerm.l17.u (n : Nat) (v : spec_l1Rd_oddTerm.l17.s.V) (K : X → St → Prop) : Prop := spec_l1Rd_oddTerm.l17 n v.2.1.1 v.2.1.2.1 v.2.2.1.1 v.2.2.1.2.1 (fun y0 y1 y2 y3 => K (.exit 1) ⟨[(6, .c (.pbox 6 0)), (7, .c (.pbox 7 0))], [(1000192, ⟨79, .prod (.int .i64) (.prod (.int .i64) (.prod (.int .i64) (.prod (.int .i64) (.prod (.int .i64) (.prod (.sl 90 (.int .u64)) (.sl 2 (.int .i64))))))), y0, 99, none⟩), (1000224, ⟨79, .prod (.int .i64) (.prod (.int .i64) (.prod (.int .i64) (.prod (.int .i64) (.prod (.int .i64) (.prod (.sl 90 (.int .u64)) (.sl 2 (.int .i64))))))), y1, 99, none⟩)], [(0, ⟨107, [.dat 5 (.int .u8) y2, .int .i64 y3], false⟩), (6, ⟨28, [.own 1000192], false⟩), (7, ⟨28, [.own 1000224], false⟩)], [], [0]⟩)
abbrev spec_l1Rd_oddTerm.q27_2.s : ST := ⟨[(6, .c (.o (.pbox 6 0))), (7, .c (.o (.pbox 7 0)))], [⟨1000192, 79, .prod (.int .i64) (.prod (.int .i64) (.prod (.int .i64) (.prod (.int .i64) (.prod (.int .i64) (.prod (.sl 90 (.int .u64)) (.sl 2 (.int .i64))))))), 99⟩, ⟨1000224, 79, .prod (.int .i64) (.prod (.int .i64) (.prod (.int .i64) (.prod (.int .i64) (.prod (.int .i64) (.prod (.sl 90 (.int .u64)) (.sl 2 (.int .i64))))))), 99⟩], [⟨0, 107, [.o (.dat 5 (.int .u8)), .o (.int .i64)], false⟩, ⟨6, 28, [.o (.own 1000192)], false⟩, ⟨7, 28, [.o (.own 1000224)], false⟩], [], [0]⟩
def spec_l1Rd_oddTerm.q27_2.u (n : Nat) (v : spec_l1Rd_oddTerm.q27_2.s.V) (K : X → St → Prop) : Prop := spec_l1Rd_oddTerm.q27_2 n v.2.1.1 v.2.1.2.1 v.2.2.1.1 v.2.2.1.2.1 (fun y0 y1 y2 => K .ret ⟨[(6, .c (.pbox 6 0))], [(1000224, ⟨79, .prod (.int .i64) (.prod (.int .i64) (.prod (.int .i64) (.prod (.int .i64) (.prod (.int .i64) (.prod (.sl 90 (.int .u64)) (.sl 2 (.int .i64))))))), y0, 99, none⟩)], [(0, ⟨107, [.dat 5 (.int .u8) y1, .int .i64 y2], false⟩), (6, ⟨28, [.own 1000224], false⟩)], [], [0]⟩)
abbrev spec_l1Rd_oddTerm.l21.s : ST := ⟨[(1, .c (.o (.dat 112 (.prod .str (.int .i64))))), (6, .c (.o (.pbox 6 0))), (7, .c (.o (.pbox 7 0))), (9, .c (.o (.int .i64)))], [⟨1000192, 79, .prod (.int .i64) (.prod (.int .i64) (.prod (.int .i64) (.prod (.int .i64) (.prod (.int .i64) (.prod (.sl 90 (.int .u64)) (.sl 2 (.int .i64))))))), 99⟩, ⟨1000224, 79, .prod (.int .i64) (.prod (.int .i64) (.prod (.int .i64) (.prod (.int .i64) (.prod (.int .i64) (.prod (.sl 90 (.int .u64)) (.sl 2 (.int .i64))))))), 99⟩], [⟨0, 107, [.o (.dat 5 (.int .u8)), .o (.int .i64)], false⟩, ⟨6, 28, [.o (.own 1000192)], false⟩, ⟨7, 28, [.o (.own 1000224)], false⟩], [], [0]⟩
def spec_l1Rd_oddTerm.l21.u (n : Nat) (v : spec_l1Rd_oddTerm.l21.s.V) (K : X → St → Prop) : Prop := spec_l1Rd_oddTerm.l21 n v.1.1 v.2.1.1 v.2.2.1.1 v.2.2.1.2.1 v.1.2.2.2.1 v.2.1.2.1 (fun y0 y1 y2 y3 => K (.exit 3) ⟨[(6, .c (.pbox 6 0)), (7, .c (.pbox 7 0))], [(1000192, ⟨79, .prod (.int .i64) (.prod (.int .i64) (.prod (.int .i64) (.prod (.int .i64) (.prod (.int .i64) (.prod (.sl 90 (.int .u64)) (.sl 2 (.int .i64))))))), y0, 99, none⟩), (1000224, ⟨79, .prod (.int .i64) (.prod (.int .i64) (.prod (.int .i64) (.prod (.int .i64) (.prod (.int .i64) (.prod (.sl 90 (.int .u64)) (.sl 2 (.int .i64))))))), y1, 99, none⟩)], [(0, ⟨107, [.dat 5 (.int .u8) y2, .int .i64 y3], false⟩), (6, ⟨28, [.own 1000192], false⟩), (7, ⟨28, [.own 1000224], false⟩)], [], [0]⟩)
theorem spec_l1Rd_oddTerm.q27_ok : ∀ n v K, spec_l1Rd_oddTerm.q27.u n v K → loopM C X0 n 43 1000027 (spec_l1Rd_oddTerm.q27.s.fill v) K :=
 cut_tell hX (fn := Try.f43) (c := bodyOf Try.f43) (a := cutOf Try.f43 27) (li := liOf (C.fi 43).loops 1000027) (by kernel_rfl) (by kernel_rfl) (of_decide_eq_true rfl) (by kernel_rfl) (by kernel_rfl) (T := spec_l1Rd_oddTerm.q27.s) (u := spec_l1Rd_oddTerm.q27.u) (fun _ _ h => h) (call := D33) (lp := fun n => noL) (D33_ok hX) (fun n => noL_ok) (fun n v K => by kernel_rfl)
theorem spec_l1Rd_oddTerm.q27_1_ok : ∀ n v K, spec_l1Rd_oddTerm.q27_1.u n v K → loopM C X0 n 43 1000027 (spec_l1Rd_oddTerm.q27_1.s.fill v) K :=
 cut_tell hX (fn := Try.f43) (c := bodyOf Try.f43) (a := cutOf Try.f43 27) (li := liOf (C.fi 43).loops 1000027) (by kernel_rfl) (by kernel_rfl) (of_decide_eq_true rfl) (by kernel_rfl) (by kernel_rfl) (T := spec_l1Rd_oddTerm.q27_1.s) (u := spec_l1Rd_oddTerm.q27_1.u) (fun _ _ h => h) (call := D33) (lp := fun n => noL) (D33_ok hX) (fun n => noL_ok) (fun n v K => by kernel_rfl)
theorem spec_l1Rd_oddTerm.l17_ok : ∀ n v K, spec_l1Rd_oddTerm.l17.u n v K → loopM C X0 n 43 17 (spec_l1Rd_oddTerm.l17.s.fill v) K :=
 loop_tell hX (fn := Try.f43) (c := bodyOf Try.f43) (a := loopOf Try.f43 17) (li := liOf (C.fi 43).loops 17) (by kernel_rfl) (by kernel_rfl) (of_decide_eq_true rfl) (by kernel_rfl) (by kernel_rfl) (T := spec_l1Rd_oddTerm.l17.s) (u := spec_l1Rd_oddTerm.l17.u) (fun _ _ h => h) (call := D33) (lp := fun n => noL) (D33_ok hX) (fun n => noL_ok) (fun n v K => by kernel_rfl)
theorem spec_l1Rd_oddTerm.q27_2_ok : ∀ n v K, spec_l1Rd_oddTerm.q27_2.u n v K → loopM C X0 n 43 1000027 (spec_l1Rd_oddTerm.q27_2.s.fill v) K :=
 cut_tell hX (fn := Try.f43) (c := bodyOf Try.f43) (a := cutOf Try.f43 27) (li := liOf (C.fi 43).loops 1000027) (by kernel_rfl) (by kernel_rfl) (of_decide_eq_true rfl) (by kernel_rfl) (by kernel_rfl) (T := spec_l1Rd_oddTerm.q27_2.s) (u := spec_l1Rd_oddTerm.q27_2.u) (fun _ _ h => h) (call := D33) (lp := fun n => noL) (D33_ok hX) (fun n => noL_ok) (fun n v K => by kernel_rfl)
theorem spec_l1Rd_oddTerm.l21_ok : ∀ n v K, spec_l1Rd_oddTerm.l21.u n v K → loopM C X0 n 43 21 (spec_l1Rd_oddTerm.l21.s.fill v) K :=
 loop_tell hX (fn := Try.f43) (c := bodyOf Try.f43) (a := loopOf Try.f43 21) (li := liOf (C.fi 43).loops 21) (by kernel_rfl) (by kernel_rfl) (of_decide_eq_true rfl) (by kernel_rfl) (by kernel_rfl) (T := spec_l1Rd_oddTerm.l21.s) (u := spec_l1Rd_oddTerm.l21.u) (fun _ _ h => h) (call := D33) (lp := fun n => noL) (D33_ok hX) (fun n => noL_ok) (fun n v K => by kernel_rfl)
theorem spec_l1Rd_oddTerm_ok : ∀ n v K, spec_l1Rd_oddTerm.u n v K → callM C X0 n 43 (fillA spec_l1Rd_oddTerm.a v) K :=
 call_tell hX (fn := Try.f43) (c := bodyOf Try.f43) (by kernel_rfl) (by kernel_rfl) (A := spec_l1Rd_oddTerm.a) (u := spec_l1Rd_oddTerm.u) (fun _ _ h => h) (call := D33) (lp := fun n => orL 17 spec_l1Rd_oddTerm.l17.s (spec_l1Rd_oddTerm.l17.u n) (orL 21 spec_l1Rd_oddTerm.l21.s (spec_l1Rd_oddTerm.l21.u n) (orL 1000027 spec_l1Rd_oddTerm.q27.s (spec_l1Rd_oddTerm.q27.u n) (orL 1000027 spec_l1Rd_oddTerm.q27_1.s (spec_l1Rd_oddTerm.q27_1.u n) (orL 1000027 spec_l1Rd_oddTerm.q27_2.s (spec_l1Rd_oddTerm.q27_2.u n) noL))))) (D33_ok hX) (fun n => (orL_ok (spec_l1Rd_oddTerm.l17_ok hX n) (orL_ok (spec_l1Rd_oddTerm.l21_ok hX n) (orL_ok (spec_l1Rd_oddTerm.q27_ok hX n) (orL_ok (spec_l1Rd_oddTerm.q27_1_ok hX n) (orL_ok (spec_l1Rd_oddTerm.q27_2_ok hX n) noL_ok)))))) (fun n v K => by kernel_rfl)
def D34 (n : Nat) : CallF := orC 43 spec_l1Rd_oddTerm.a (spec_l1Rd_oddTerm.u n) (D33 n)
theorem D34_ok : ∀ n g a K, D34 n g a K → callM C X0 n g a K := fun n => orC_ok (spec_l1Rd_oddTerm_ok hX n) (D33_ok hX n)
abbrev spec_l1Rd_oddLiterals.a : List TS := [.c (.boxr 107 [.dat 5 (.int .u8), .int .i64]), .c (.o (.dat 112 (.prod .str (.int .i64)))), .c (.o (.int .i64))]
def spec_l1Rd_oddLiterals.u (n : Nat) (v : VA spec_l1Rd_oddLiterals.a) (K : RES → Prop) : Prop := spec_l1Rd_oddLiterals.c n v.1.1 v.1.2.1 v.2.1 v.2.2.1 (fun r0 r1 r2 => K ⟨.c (.row ⟨30, .prod (.int .i64) (.prod .bool (.prod (.sl 79 (.prod (.int .i64) (.prod (.int .i64) (.prod (.int .i64) (.prod (.int .i64) (.prod (.int .i64) (.prod (.sl 90 (.int .u64)) (.sl 2 (.int .i64))))))))) (.sl 79 (.prod (.int .i64) (.prod (.int .i64) (.prod (.int .i64) (.prod (.int .i64) (.prod (.int .i64) (.prod (.sl 90 (.int .u64)) (.sl 2 (.int .i64))))))))))), r0, 1, none⟩), [[.boxr 107 [.dat 5 (.int .u8) r1, .int .i64 r2]]]⟩)
abbrev spec_l1Rd_oddLiterals.l9.s : ST := ⟨[(0, .c (.o (.pbox 0 0))), (7, .c (.o (.own 224)))], [⟨224, 30, .prod (.int .i64) (.prod .bool (.prod (.sl 79 (.prod (.int .i64) (.prod (.int .i64) (.prod (.int .i64) (.prod (.int .i64) (.prod (.int .i64) (.prod (.sl 90 (.int .u64)) (.sl 2 (.int .i64))))))))) (.sl 79 (.prod (.int .i64) (.prod (.int .i64) (.prod (.int .i64) (.prod (.int .i64) (.prod (.int .i64) (.prod (.sl 90 (.int .u64)) (.sl 2 (.int .i64))))))))))), 1⟩], [⟨0, 107, [.o (.dat 5 (.int .u8)), .o (.int .i64)], false⟩], [], [0]⟩
def spec_l1Rd_oddLiterals.l9.u (n : Nat) (v : spec_l1Rd_oddLiterals.l9.s.V) (K : X → St → Prop) : Prop := spec_l1Rd_oddLiterals.l9 n v.2.1.1 v.2.2.1.1 v.2.2.1.2.1 (fun y0 y1 y2 => K (.exit 1) ⟨[(7, .c (.own 224))], [(224, ⟨30, .prod (.int .i64) (.prod .bool (.prod (.sl 79 (.prod (.int .i64) (.prod (.int .i64) (.prod (.int .i64) (.prod (.int .i64) (.prod (.int .i64) (.prod (.sl 90 (.int .u64)) (.sl 2 (.int .i64))))))))) (.sl 79 (.prod (.int .i64) (.prod (.int .i64) (.prod (.int .i64) (.prod (.int .i64) (.prod (.int .i64) (.prod (.sl 90 (.int .u64)) (.sl 2 (.int .i64))))))))))), y0, 1, none⟩)], [(0, ⟨107, [.dat 5 (.int .u8) y1, .int .i64 y2], false⟩)], [], [0]⟩)
theorem spec_l1Rd_oddLiterals.l9_ok : ∀ n v K, spec_l1Rd_oddLiterals.l9.u n v K → loopM C X0 n 33 9 (spec_l1Rd_oddLiterals.l9.s.fill v) K :=
 loop_tell hX (fn := Try.f33) (c := bodyOf Try.f33) (a := loopOf Try.f33 9) (li := liOf (C.fi 33).loops 9) (by kernel_rfl) (by kernel_rfl) (of_decide_eq_true rfl) (by kernel_rfl) (by kernel_rfl) (T := spec_l1Rd_oddLiterals.l9.s) (u := spec_l1Rd_oddLiterals.l9.u) (fun _ _ h => h) (call := D34) (lp := fun n => noL) (D34_ok hX) (fun n => noL_ok) (fun n v K => by kernel_rfl)
theorem spec_l1Rd_oddLiterals_ok : ∀ n v K, spec_l1Rd_oddLiterals.u n v K → callM C X0 n 33 (fillA spec_l1Rd_oddLiterals.a v) K :=
 call_tell hX (fn := Try.f33) (c := bodyOf Try.f33) (by kernel_rfl) (by kernel_rfl) (A := spec_l1Rd_oddLiterals.a) (u := spec_l1Rd_oddLiterals.u) (fun _ _ h => h) (call := D34) (lp := fun n => orL 9 spec_l1Rd_oddLiterals.l9.s (spec_l1Rd_oddLiterals.l9.u n) noL) (D34_ok hX) (fun n => (orL_ok (spec_l1Rd_oddLiterals.l9_ok hX n) noL_ok)) (fun n v K => by kernel_rfl)
def D35 (n : Nat) : CallF := orC 33 spec_l1Rd_oddLiterals.a (spec_l1Rd_oddLiterals.u n) (D34 n)
theorem D35_ok : ∀ n g a K, D35 n g a K → callM C X0 n g a K := fun n => orC_ok (spec_l1Rd_oddLiterals_ok hX n) (D34_ok hX n)
abbrev spec_DrawHolds.a : List TS := [.c (.o (.dat 5 (.int .u8)))]
def spec_DrawHolds.u (n : Nat) (v : VA spec_DrawHolds.a) (K : RES → Prop) : Prop := spec_DrawHolds.c n v.1 (fun r0 r1 r2 r3 r4 r5 => K ⟨.tup [.c (.row ⟨112, .prod .str (.int .i64), r0, 0, none⟩), .c (.dat 44 (.prod (.int .i64) (.sl 90 (.int .u64))) r1), .agg [.int .i64 r2, .bool r3, .dat 79 (.prod (.int .i64) (.prod (.int .i64) (.prod (.int .i64) (.prod (.int .i64) (.prod (.int .i64) (.prod (.sl 90 (.int .u64)) (.sl 2 (.int .i64)))))))) r4, .dat 79 (.prod (.int .i64) (.prod (.int .i64) (.prod (.int .i64) (.prod (.int .i64) (.prod (.int .i64) (.prod (.sl 90 (.int .u64)) (.sl 2 (.int .i64)))))))) r5]], []⟩)
theorem spec_DrawHolds_ok : ∀ n v K, spec_DrawHolds.u n v K → callM C X0 n 8 (fillA spec_DrawHolds.a v) K :=
 call_tell hX (fn := Try.f8) (c := bodyOf Try.f8) (by kernel_rfl) (by kernel_rfl) (A := spec_DrawHolds.a) (u := spec_DrawHolds.u) (fun _ _ h => h) (call := D35) (lp := fun n => noL) (D35_ok hX) (fun n => noL_ok) (fun n v K => by kernel_rfl)
def D36 (n : Nat) : CallF := orC 8 spec_DrawHolds.a (spec_DrawHolds.u n) (D35 n)
theorem D36_ok : ∀ n g a K, D36 n g a K → callM C X0 n g a K := fun n => orC_ok (spec_DrawHolds_ok hX n) (D35_ok hX n)
abbrev spec_ValuesOk.a : List TS := [.c (.o (.dat 112 (.prod .str (.int .i64)))), .c (.o (.dat 44 (.prod (.int .i64) (.sl 90 (.int .u64)))))]
def spec_ValuesOk.u (n : Nat) (v : VA spec_ValuesOk.a) (K : RES → Prop) : Prop := spec_ValuesOk.c n v.1 v.2.1 (fun r0 => K ⟨.c (.bool r0), []⟩)
abbrev spec_ValuesOk.l4.s : ST := ⟨[(0, .c (.o (.dat 112 (.prod .str (.int .i64))))), (1, .c (.o (.dat 44 (.prod (.int .i64) (.sl 90 (.int .u64)))))), (5, .c (.o (.int .i64)))], [], [], [], []⟩
def spec_ValuesOk.l4.u (n : Nat) (v : spec_ValuesOk.l4.s.V) (K : X → St → Prop) : Prop := spec_ValuesOk.l4 n v.1.1 v.1.2.1 v.1.2.2.1 (K (.exit 0) ⟨[], [], [], [], []⟩) (fun y0 => K .ret ⟨[(4, .c (.bool y0))], [], [], [], []⟩)
theorem spec_ValuesOk.l4_ok : ∀ n v K, spec_ValuesOk.l4.u n v K → loopM C X0 n 34 4 (spec_ValuesOk.l4.s.fill v) K :=
 loop_tell hX (fn := Try.f34) (c := bodyOf Try.f34) (a := loopOf Try.f34 4) (li := liOf (C.fi 34).loops 4) (by kernel_rfl) (by kernel_rfl) (of_decide_eq_true rfl) (by kernel_rfl) (by kernel_rfl) (T := spec_ValuesOk.l4.s) (u := spec_ValuesOk.l4.u) (fun _ _ h => h) (call := D36) (lp := fun n => noL) (D36_ok hX) (fun n => noL_ok) (fun n v K => by kernel_rfl)
theorem spec_ValuesOk_ok : ∀ n v K, spec_ValuesOk.u n v K → callM C X0 n 34 (fillA spec_ValuesOk.a v) K :=
 call_tell hX (fn := Try.f34) (c := bodyOf Try.f34) (by kernel_rfl) (by kernel_rfl) (A := spec_ValuesOk.a) (u := spec_ValuesOk.u) (fun _ _ h => h) (call := D36) (lp := fun n => orL 4 spec_ValuesOk.l4.s (spec_ValuesOk.l4.u n) noL) (D36_ok hX) (fun n => (orL_ok (spec_ValuesOk.l4_ok hX n) noL_ok)) (fun n v K => by kernel_rfl)
def D37 (n : Nat) : CallF := orC 34 spec_ValuesOk.a (spec_ValuesOk.u n) (D36 n)
theorem D37_ok : ∀ n g a K, D37 n g a K → callM C X0 n g a K := fun n => orC_ok (spec_ValuesOk_ok hX n) (D36_ok hX n)
abbrev spec_LiteralsOk.a : List TS := [.c (.o (.dat 112 (.prod .str (.int .i64)))), .c (.o (.dat 30 (.prod (.int .i64) (.prod .bool (.prod (.sl 79 (.prod (.int .i64) (.prod (.int .i64) (.prod (.int .i64) (.prod (.int .i64) (.prod (.int .i64) (.prod (.sl 90 (.int .u64)) (.sl 2 (.int .i64))))))))) (.sl 79 (.prod (.int .i64) (.prod (.int .i64) (.prod (.int .i64) (.prod (.int .i64) (.prod (.int .i64) (.prod (.sl 90 (.int .u64)) (.sl 2 (.int .i64))))))))))))))]
def spec_LiteralsOk.u (n : Nat) (v : VA spec_LiteralsOk.a) (K : RES → Prop) : Prop := spec_LiteralsOk.c n v.1 v.2.1 (fun r0 => K ⟨.c (.bool r0), []⟩)
abbrev spec_LiteralsOk.l4.s : ST := ⟨[(0, .c (.o (.dat 112 (.prod .str (.int .i64))))), (1, .c (.o (.dat 30 (.prod (.int .i64) (.prod .bool (.prod (.sl 79 (.prod (.int .i64) (.prod (.int .i64) (.prod (.int .i64) (.prod (.int .i64) (.prod (.int .i64) (.prod (.sl 90 (.int .u64)) (.sl 2 (.int .i64))))))))) (.sl 79 (.prod (.int .i64) (.prod (.int .i64) (.prod (.int .i64) (.prod (.int .i64) (.prod (.int .i64) (.prod (.sl 90 (.int .u64)) (.sl 2 (.int .i64))))))))))))))), (5, .c (.o (.int .i64)))], [], [], [], []⟩
def spec_LiteralsOk.l4.u (n : Nat) (v : spec_LiteralsOk.l4.s.V) (K : X → St → Prop) : Prop := spec_LiteralsOk.l4 n v.1.1 v.1.2.1 v.1.2.2.1 (K (.exit 0) ⟨[], [], [], [], []⟩) (fun y0 => K .ret ⟨[(4, .c (.bool y0))], [], [], [], []⟩)
theorem spec_LiteralsOk.l4_ok : ∀ n v K, spec_LiteralsOk.l4.u n v K → loopM C X0 n 35 4 (spec_LiteralsOk.l4.s.fill v) K :=
 loop_tell hX (fn := Try.f35) (c := bodyOf Try.f35) (a := loopOf Try.f35 4) (li := liOf (C.fi 35).loops 4) (by kernel_rfl) (by kernel_rfl) (of_decide_eq_true rfl) (by kernel_rfl) (by kernel_rfl) (T := spec_LiteralsOk.l4.s) (u := spec_LiteralsOk.l4.u) (fun _ _ h => h) (call := D37) (lp := fun n => noL) (D37_ok hX) (fun n => noL_ok) (fun n v K => by kernel_rfl)
theorem spec_LiteralsOk_ok : ∀ n v K, spec_LiteralsOk.u n v K → callM C X0 n 35 (fillA spec_LiteralsOk.a v) K :=
 call_tell hX (fn := Try.f35) (c := bodyOf Try.f35) (by kernel_rfl) (by kernel_rfl) (A := spec_LiteralsOk.a) (u := spec_LiteralsOk.u) (fun _ _ h => h) (call := D37) (lp := fun n => orL 4 spec_LiteralsOk.l4.s (spec_LiteralsOk.l4.u n) noL) (D37_ok hX) (fun n => (orL_ok (spec_LiteralsOk.l4_ok hX n) noL_ok)) (fun n v K => by kernel_rfl)
def D38 (n : Nat) : CallF := orC 35 spec_LiteralsOk.a (spec_LiteralsOk.u n) (D37 n)
theorem D38_ok : ∀ n g a K, D38 n g a K → callM C X0 n g a K := fun n => orC_ok (spec_LiteralsOk_ok hX n) (D37_ok hX n)
abbrev spec_l1List.a : List TS := [.a [.o (.int .i64), .o (.dat 90 (.int .u64))]]
def spec_l1List.u (n : Nat) (v : VA spec_l1List.a) (K : RES → Prop) : Prop := spec_l1List.c n v.1.1 v.1.2.1 (fun r0 => K ⟨.c (.row ⟨5, .int .u8, r0, 99, none⟩), []⟩)
abbrev spec_l1List.l3.s : ST := ⟨[(1, .c (.o (.pbox 1 0))), (3, .c (.o (.own 96))), (4, .c (.o (.int .i64)))], [⟨96, 5, .int .u8, 99⟩], [⟨1, 44, [.o (.int .i64), .o (.dat 90 (.int .u64))], false⟩], [], []⟩
def spec_l1List.l3.u (n : Nat) (v : spec_l1List.l3.s.V) (K : X → St → Prop) : Prop := spec_l1List.l3 n v.2.2.1.1 v.2.2.1.2.1 v.1.2.2.1 v.2.1.1 (fun y0 => K (.exit 0) ⟨[(3, .c (.own 96))], [(96, ⟨5, .int .u8, y0, 99, none⟩)], [], [], []⟩)
theorem spec_l1List.l3_ok : ∀ n v K, spec_l1List.l3.u n v K → loopM C X0 n 73 3 (spec_l1List.l3.s.fill v) K :=
 loop_tell hX (fn := Try.f73) (c := bodyOf Try.f73) (a := loopOf Try.f73 3) (li := liOf (C.fi 73).loops 3) (by kernel_rfl) (by kernel_rfl) (of_decide_eq_true rfl) (by kernel_rfl) (by kernel_rfl) (T := spec_l1List.l3.s) (u := spec_l1List.l3.u) (fun _ _ h => h) (call := D38) (lp := fun n => noL) (D38_ok hX) (fun n => noL_ok) (fun n v K => by kernel_rfl)
theorem spec_l1List_ok : ∀ n v K, spec_l1List.u n v K → callM C X0 n 73 (fillA spec_l1List.a v) K :=
 call_tell hX (fn := Try.f73) (c := bodyOf Try.f73) (by kernel_rfl) (by kernel_rfl) (A := spec_l1List.a) (u := spec_l1List.u) (fun _ _ h => h) (call := D38) (lp := fun n => orL 3 spec_l1List.l3.s (spec_l1List.l3.u n) noL) (D38_ok hX) (fun n => (orL_ok (spec_l1List.l3_ok hX n) noL_ok)) (fun n v K => by kernel_rfl)
def D39 (n : Nat) : CallF := orC 73 spec_l1List.a (spec_l1List.u n) (D38 n)
theorem D39_ok : ∀ n g a K, D39 n g a K → callM C X0 n g a K := fun n => orC_ok (spec_l1List_ok hX n) (D38_ok hX n)
abbrev spec_JoinBits.a : List TS := [.a [.o (.int .i64), .o (.dat 90 (.int .u64))], .a [.o (.int .i64), .o (.dat 90 (.int .u64))]]
def spec_JoinBits.u (n : Nat) (v : VA spec_JoinBits.a) (K : RES → Prop) : Prop := spec_JoinBits.c n v.1.1 v.1.2.1 v.2.1.1 v.2.1.2.1 (fun r0 r1 r2 => K ⟨.tup [.agg [.int .i64 r0, .row ⟨90, .int .u64, r1, 99, none⟩], .c (.bool r2)], []⟩)
theorem spec_JoinBits_ok : ∀ n v K, spec_JoinBits.u n v K → callM C X0 n 28 (fillA spec_JoinBits.a v) K :=
 call_tell hX (fn := Try.f28) (c := bodyOf Try.f28) (by kernel_rfl) (by kernel_rfl) (A := spec_JoinBits.a) (u := spec_JoinBits.u) (fun _ _ h => h) (call := D39) (lp := fun n => noL) (D39_ok hX) (fun n => noL_ok) (fun n v K => by kernel_rfl)
def D40 (n : Nat) : CallF := orC 28 spec_JoinBits.a (spec_JoinBits.u n) (D39 n)
theorem D40_ok : ∀ n g a K, D40 n g a K → callM C X0 n g a K := fun n => orC_ok (spec_JoinBits_ok hX n) (D39_ok hX n)
abbrev spec_PartOf.a : List TS := [.a [.o (.int .i64), .o (.dat 90 (.int .u64))], .c (.o (.int .i64)), .c (.o (.int .i64))]
def spec_PartOf.u (n : Nat) (v : VA spec_PartOf.a) (K : RES → Prop) : Prop := spec_PartOf.c n v.1.1 v.1.2.1 v.2.1 v.2.2.1 (fun r0 r1 r2 => K ⟨.tup [.agg [.int .i64 r0, .row ⟨90, .int .u64, r1, 99, none⟩], .c (.bool r2)], []⟩)
theorem spec_PartOf_ok : ∀ n v K, spec_PartOf.u n v K → callM C X0 n 113 (fillA spec_PartOf.a v) K :=
 call_tell hX (fn := Try.f113) (c := bodyOf Try.f113) (by kernel_rfl) (by kernel_rfl) (A := spec_PartOf.a) (u := spec_PartOf.u) (fun _ _ h => h) (call := D40) (lp := fun n => noL) (D40_ok hX) (fun n => noL_ok) (fun n v K => by kernel_rfl)
def D41 (n : Nat) : CallF := orC 113 spec_PartOf.a (spec_PartOf.u n) (D40 n)
theorem D41_ok : ∀ n g a K, D41 n g a K → callM C X0 n g a K := fun n => orC_ok (spec_PartOf_ok hX n) (D40_ok hX n)
abbrev spec_WidenBits.a : List TS := [.a [.o (.int .i64), .o (.dat 90 (.int .u64))], .c (.o (.int .i64)), .c (.o .bool)]
def spec_WidenBits.u (n : Nat) (v : VA spec_WidenBits.a) (K : RES → Prop) : Prop := spec_WidenBits.c n v.1.1 v.1.2.1 v.2.1 v.2.2.1 (fun r0 r1 r2 => K ⟨.tup [.agg [.int .i64 r0, .row ⟨90, .int .u64, r1, 99, none⟩], .c (.bool r2)], []⟩)
abbrev spec_WidenBits.l8.s : ST := ⟨[(1, .c (.o (.int .i64))), (6, .c (.o (.pbox 6 0))), (8, .c (.o (.own 256))), (9, .c (.o (.int .u8))), (10, .c (.o (.int .i64)))], [⟨256, 5, .int .u8, 99⟩, ⟨1000193, 90, .int .u64, 99⟩], [⟨6, 44, [.o (.int .i64), .o (.own 1000193)], false⟩], [], []⟩
def spec_WidenBits.l8.u (n : Nat) (v : spec_WidenBits.l8.s.V) (K : X → St → Prop) : Prop := spec_WidenBits.l8 n v.1.1 v.1.2.2.2.1 v.2.1.2.1 v.2.2.1.1 v.1.2.2.2.2.1 v.2.1.1 (fun y0 y1 y2 => K (.exit 0) ⟨[(6, .c (.pbox 6 0)), (8, .c (.own 256))], [(256, ⟨5, .int .u8, y0, 99, none⟩), (1000193, ⟨90, .int .u64, y1, 99, none⟩)], [(6, ⟨44, [.int .i64 y2, .own 1000193], false⟩)], [], []⟩)
theorem spec_WidenBits.l8_ok : ∀ n v K, spec_WidenBits.l8.u n v K → loopM C X0 n 114 8 (spec_WidenBits.l8.s.fill v) K :=
 loop_tell hX (fn := Try.f114) (c := bodyOf Try.f114) (a := loopOf Try.f114 8) (li := liOf (C.fi 114).loops 8) (by kernel_rfl) (by kernel_rfl) (of_decide_eq_true rfl) (by kernel_rfl) (by kernel_rfl) (T := spec_WidenBits.l8.s) (u := spec_WidenBits.l8.u) (fun _ _ h => h) (call := D41) (lp := fun n => noL) (D41_ok hX) (fun n => noL_ok) (fun n v K => by kernel_rfl)
theorem spec_WidenBits_ok : ∀ n v K, spec_WidenBits.u n v K → callM C X0 n 114 (fillA spec_WidenBits.a v) K :=
 call_tell hX (fn := Try.f114) (c := bodyOf Try.f114) (by kernel_rfl) (by kernel_rfl) (A := spec_WidenBits.a) (u := spec_WidenBits.u) (fun _ _ h => h) (call := D41) (lp := fun n => orL 8 spec_WidenBits.l8.s (spec_WidenBits.l8.u n) noL) (D41_ok hX) (fun n => (orL_ok (spec_WidenBits.l8_ok hX n) noL_ok)) (fun n v K => by kernel_rfl)
def D42 (n : Nat) : CallF := orC 114 spec_WidenBits.a (spec_WidenBits.u n) (D41 n)
theorem D42_ok : ∀ n g a K, D42 n g a K → callM C X0 n g a K := fun n => orC_ok (spec_WidenBits_ok hX n) (D41_ok hX n)
abbrev spec_TurnBits.a : List TS := [.a [.o (.int .i64), .o (.dat 90 (.int .u64))], .c (.o (.int .i64))]
def spec_TurnBits.u (n : Nat) (v : VA spec_TurnBits.a) (K : RES → Prop) : Prop := spec_TurnBits.c n v.1.1 v.1.2.1 v.2.1 (fun r0 r1 r2 => K ⟨.tup [.agg [.int .i64 r0, .row ⟨90, .int .u64, r1, 99, none⟩], .c (.bool r2)], []⟩)
abbrev spec_TurnBits.l6.s : ST := ⟨[(1, .c (.o (.int .i64))), (4, .c (.o (.pbox 4 0))), (6, .c (.o (.own 608))), (7, .c (.o (.own 704))), (8, .c (.o (.int .i64)))], [⟨608, 5, .int .u8, 99⟩, ⟨704, 5, .int .u8, 99⟩, ⟨1000129, 90, .int .u64, 99⟩], [⟨4, 44, [.o (.int .i64), .o (.own 1000129)], false⟩], [], []⟩
def spec_TurnBits.l6.u (n : Nat) (v : spec_TurnBits.l6.s.V) (K : X → St → Prop) : Prop := spec_TurnBits.l6 n v.1.1 v.2.1.1 v.2.1.2.2.1 v.2.2.1.1 v.1.2.2.2.2.1 v.2.1.2.1 (fun y0 y1 y2 => K (.exit 0) ⟨[(4, .c (.pbox 4 0)), (7, .c (.own 704))], [(704, ⟨5, .int .u8, y0, 99, none⟩), (1000129, ⟨90, .int .u64, y1, 99, none⟩)], [(4, ⟨44, [.int .i64 y2, .own 1000129], false⟩)], [], []⟩)
theorem spec_TurnBits.l6_ok : ∀ n v K, spec_TurnBits.l6.u n v K → loopM C X0 n 115 6 (spec_TurnBits.l6.s.fill v) K :=
 loop_tell hX (fn := Try.f115) (c := bodyOf Try.f115) (a := loopOf Try.f115 6) (li := liOf (C.fi 115).loops 6) (by kernel_rfl) (by kernel_rfl) (of_decide_eq_true rfl) (by kernel_rfl) (by kernel_rfl) (T := spec_TurnBits.l6.s) (u := spec_TurnBits.l6.u) (fun _ _ h => h) (call := D42) (lp := fun n => noL) (D42_ok hX) (fun n => noL_ok) (fun n v K => by kernel_rfl)
theorem spec_TurnBits_ok : ∀ n v K, spec_TurnBits.u n v K → callM C X0 n 115 (fillA spec_TurnBits.a v) K :=
 call_tell hX (fn := Try.f115) (c := bodyOf Try.f115) (by kernel_rfl) (by kernel_rfl) (A := spec_TurnBits.a) (u := spec_TurnBits.u) (fun _ _ h => h) (call := D42) (lp := fun n => orL 6 spec_TurnBits.l6.s (spec_TurnBits.l6.u n) noL) (D42_ok hX) (fun n => (orL_ok (spec_TurnBits.l6_ok hX n) noL_ok)) (fun n v K => by kernel_rfl)
def D43 (n : Nat) : CallF := orC 115 spec_TurnBits.a (spec_TurnBits.u n) (D42 n)
theorem D43_ok : ∀ n g a K, D43 n g a K → callM C X0 n g a K := fun n => orC_ok (spec_TurnBits_ok hX n) (D42_ok hX n)
abbrev spec_RepeatBits.a : List TS := [.a [.o (.int .i64), .o (.dat 90 (.int .u64))], .c (.o (.int .i64))]
def spec_RepeatBits.u (n : Nat) (v : VA spec_RepeatBits.a) (K : RES → Prop) : Prop := spec_RepeatBits.c n v.1.1 v.1.2.1 v.2.1 (fun r0 r1 r2 => K ⟨.tup [.agg [.int .i64 r0, .row ⟨90, .int .u64, r1, 99, none⟩], .c (.bool r2)], []⟩)
abbrev spec_RepeatBits.l6.s : ST := ⟨[(1, .c (.o (.int .i64))), (4, .c (.o (.pbox 4 0))), (6, .c (.o (.own 832))), (7, .c (.o (.own 224))), (8, .c (.o (.int .i64)))], [⟨224, 5, .int .u8, 99⟩, ⟨832, 5, .int .u8, 99⟩, ⟨1000129, 90, .int .u64, 99⟩], [⟨4, 44, [.o (.int .i64), .o (.own 1000129)], false⟩], [], []⟩
def spec_RepeatBits.l6.u (n : Nat) (v : spec_RepeatBits.l6.s.V) (K : X → St → Prop) : Prop := spec_RepeatBits.l6 n v.1.1 v.2.1.2.1 v.2.1.2.2.1 v.2.2.1.1 v.1.2.2.2.2.1 v.2.1.1 (fun y0 y1 y2 => K (.exit 0) ⟨[(4, .c (.pbox 4 0)), (7, .c (.own 224))], [(224, ⟨5, .int .u8, y0, 99, none⟩), (1000129, ⟨90, .int .u64, y1, 99, none⟩)], [(4, ⟨44, [.int .i64 y2, .own 1000129], false⟩)], [], []⟩)
theorem spec_RepeatBits.l6_ok : ∀ n v K, spec_RepeatBits.l6.u n v K → loopM C X0 n 116 6 (spec_RepeatBits.l6.s.fill v) K :=
 loop_tell hX (fn := Try.f116) (c := bodyOf Try.f116) (a := loopOf Try.f116 6) (li := liOf (C.fi 116).loops 6) (by kernel_rfl) (by kernel_rfl) (of_decide_eq_true rfl) (by kernel_rfl) (by kernel_rfl) (T := spec_RepeatBits.l6.s) (u := spec_RepeatBits.l6.u) (fun _ _ h => h) (call := D43) (lp := fun n => noL) (D43_ok hX) (fun n => noL_ok) (fun n v K => by kernel_rfl)
theorem spec_RepeatBits_ok : ∀ n v K, spec_RepeatBits.u n v K → callM C X0 n 116 (fillA spec_RepeatBits.a v) K :=
 call_tell hX (fn := Try.f116) (c := bodyOf Try.f116) (by kernel_rfl) (by kernel_rfl) (A := spec_RepeatBits.a) (u := spec_RepeatBits.u) (fun _ _ h => h) (call := D43) (lp := fun n => orL 6 spec_RepeatBits.l6.s (spec_RepeatBits.l6.u n) noL) (D43_ok hX) (fun n => (orL_ok (spec_RepeatBits.l6_ok hX n) noL_ok)) (fun n v K => by kernel_rfl)
def D44 (n : Nat) : CallF := orC 116 spec_RepeatBits.a (spec_RepeatBits.u n) (D43 n)
theorem D44_ok : ∀ n g a K, D44 n g a K → callM C X0 n g a K := fun n => orC_ok (spec_RepeatBits_ok hX n) (D43_ok hX n)
abbrev spec_l4Node.a : List TS := [.c (.o (.dat 44 (.prod (.int .i64) (.sl 90 (.int .u64))))), .a [.o (.int .i64), .o (.int .i64), .o (.int .i64), .o (.int .i64), .o (.int .i64), .o (.dat 90 (.int .u64)), .o (.dat 2 (.int .i64))], .c (.o (.dat 44 (.prod (.int .i64) (.sl 90 (.int .u64)))))]
def spec_l4Node.u (n : Nat) (v : VA spec_l4Node.a) (K : RES → Prop) : Prop := spec_l4Node.c n v.1 v.2.1.1 v.2.1.2.1 v.2.1.2.2.1 v.2.1.2.2.2.1 v.2.1.2.2.2.2.1 v.2.1.2.2.2.2.2.1 v.2.1.2.2.2.2.2.2.1 v.2.2.1 (fun r0 r1 => K ⟨.agg [.int .i64 r0, .dat 90 (.int .u64) r1], []⟩)
abbrev spec_l4Node.l10.s : ST := ⟨[(2, .c (.o (.dat 44 (.prod (.int .i64) (.sl 90 (.int .u64)))))), (6, .c (.o (.pbox 6 0))), (7, .c (.o (.pbox 7 0))), (8, .c (.o (.int .i64)))], [⟨1000193, 90, .int .u64, 99⟩], [⟨6, 44, [.o (.int .i64), .o (.own 1000193)], false⟩, ⟨7, 44, [.o (.int .i64), .o (.dat 90 (.int .u64))], false⟩], [], []⟩
def spec_l4Node.l10.u (n : Nat) (v : spec_l4Node.l10.s.V) (K : X → St → Prop) : Prop := spec_l4Node.l10 n v.1.1 v.2.1.1 v.2.2.1.1 v.1.2.2.2.1 v.2.2.2.1.1 v.2.2.2.1.2.1 (fun y0 y1 y2 y3 => K (.exit 1) ⟨[(6, .c (.pbox 6 0)), (7, .c (.pbox 7 0))], [(1000193, ⟨90, .int .u64, y0, 99, none⟩)], [(6, ⟨44, [.int .i64 y1, .own 1000193], false⟩), (7, ⟨44, [.int .i64 y2, .dat 90 (.int .u64) y3], false⟩)], [], []⟩)
theorem spec_l4Node.l10_ok : ∀ n v K, spec_l4Node.l10.u n v K → loopM C X0 n 85 10 (spec_l4Node.l10.s.fill v) K :=
 loop_tell hX (fn := Try.f85) (c := bodyOf Try.f85) (a := loopOf Try.f85 10) (li := liOf (C.fi 85).loops 10) (by kernel_rfl) (by kernel_rfl) (of_decide_eq_true rfl) (by kernel_rfl) (by kernel_rfl) (T := spec_l4Node.l10.s) (u := spec_l4Node.l10.u) (fun _ _ h => h) (call := D44) (lp := fun n => noL) (D44_ok hX) (fun n => noL_ok) (fun n v K => by kernel_rfl)
theorem spec_l4Node_ok : ∀ n v K, spec_l4Node.u n v K → callM C X0 n 85 (fillA spec_l4Node.a v) K :=
 call_tell hX (fn := Try.f85) (c := bodyOf Try.f85) (by kernel_rfl) (by kernel_rfl) (A := spec_l4Node.a) (u := spec_l4Node.u) (fun _ _ h => h) (call := D44) (lp := fun n => orL 10 spec_l4Node.l10.s (spec_l4Node.l10.u n) noL) (D44_ok hX) (fun n => (orL_ok (spec_l4Node.l10_ok hX n) noL_ok)) (fun n v K => by kernel_rfl)
def D45 (n : Nat) : CallF := orC 85 spec_l4Node.a (spec_l4Node.u n) (D44 n)
theorem D45_ok : ∀ n g a K, D45 n g a K → callM C X0 n g a K := fun n => orC_ok (spec_l4Node_ok hX n) (D44_ok hX n)
abbrev spec_l4Eval.a : List TS := [.c (.o (.dat 44 (.prod (.int .i64) (.sl 90 (.int .u64))))), .a [.o (.dat 79 (.prod (.int .i64) (.prod (.int .i64) (.prod (.int .i64) (.prod (.int .i64) (.prod (.int .i64) (.prod (.sl 90 (.int .u64)) (.sl 2 (.int .i64)))))))))]]
def spec_l4Eval.u (n : Nat) (v : VA spec_l4Eval.a) (K : RES → Prop) : Prop := spec_l4Eval.c n v.1 v.2.1.1 (fun r0 r1 => K ⟨.agg [.int .i64 r0, .row ⟨90, .int .u64, r1, 99, none⟩], []⟩)
abbrev spec_l4Eval.l7.s : ST := ⟨[(0, .c (.o (.dat 44 (.prod (.int .i64) (.sl 90 (.int .u64)))))), (3, .c (.o (.pbox 3 0))), (4, .c (.o (.pbox 4 0))), (5, .c (.o (.own 160))), (6, .c (.o (.int .i64))), (7, .c (.o (.own 224))), (8, .c (.o (.int .i64)))], [⟨160, 44, .prod (.int .i64) (.sl 90 (.int .u64)), 1⟩, ⟨224, 44, .prod (.int .i64) (.sl 90 (.int .u64)), 1⟩, ⟨1000129, 90, .int .u64, 99⟩], [⟨3, 28, [.o (.dat 79 (.prod (.int .i64) (.prod (.int .i64) (.prod (.int .i64) (.prod (.int .i64) (.prod (.int .i64) (.prod (.sl 90 (.int .u64)) (.sl 2 (.int .i64)))))))))], false⟩, ⟨4, 44, [.o (.int .i64), .o (.own 1000129)], false⟩], [], []⟩
def spec_l4Eval.l7.u (n : Nat) (v : spec_l4Eval.l7.s.V) (K : X → St → Prop) : Prop := spec_l4Eval.l7 n v.1.1 v.1.2.2.2.2.1 v.2.1.1 v.2.1.2.2.1 v.2.2.1.1 v.2.2.2.1.1 v.1.2.2.2.2.2.2.1 v.2.1.2.1 (fun y0 y1 y2 y3 y4 y5 y6 => K (.exit 2) ⟨[(0, .c (.dat 44 (.prod (.int .i64) (.sl 90 (.int .u64))) y0)), (3, .c (.pbox 3 0)), (4, .c (.pbox 4 0)), (5, .c (.own 160)), (6, .c (.int .i64 y1)), (7, .c (.own 224))], [(160, ⟨44, .prod (.int .i64) (.sl 90 (.int .u64)), y2, 1, none⟩), (224, ⟨44, .prod (.int .i64) (.sl 90 (.int .u64)), y3, 1, none⟩), (1000129, ⟨90, .int .u64, y4, 99, none⟩)], [(3, ⟨28, [.dat 79 (.prod (.int .i64) (.prod (.int .i64) (.prod (.int .i64) (.prod (.int .i64) (.prod (.int .i64) (.prod (.sl 90 (.int .u64)) (.sl 2 (.int .i64)))))))) y5], false⟩), (4, ⟨44, [.int .i64 y6, .own 1000129], false⟩)], [], []⟩)
abbrev spec_l4Eval.l3.s : ST := ⟨[(0, .c (.o (.dat 44 (.prod (.int .i64) (.sl 90 (.int .u64)))))), (3, .c (.o (.pbox 3 0))), (4, .c (.o (.pbox 4 0))), (5, .c (.o (.own 160))), (6, .c (.o (.int .i64)))], [⟨160, 44, .prod (.int .i64) (.sl 90 (.int .u64)), 1⟩, ⟨1000129, 90, .int .u64, 99⟩], [⟨3, 28, [.o (.dat 79 (.prod (.int .i64) (.prod (.int .i64) (.prod (.int .i64) (.prod (.int .i64) (.prod (.int .i64) (.prod (.sl 90 (.int .u64)) (.sl 2 (.int .i64)))))))))], false⟩, ⟨4, 44, [.o (.int .i64), .o (.own 1000129)], false⟩], [], []⟩
def spec_l4Eval.l3.u (n : Nat) (v : spec_l4Eval.l3.s.V) (K : X → St → Prop) : Prop := spec_l4Eval.l3 n v.1.1 v.1.2.2.2.2.1 v.2.1.1 v.2.1.2.1 v.2.2.1.1 v.2.2.2.1.1 (fun y0 y1 y2 => K (.exit 0) ⟨[(4, .c (.pbox 4 0)), (5, .c (.own 160))], [(160, ⟨44, .prod (.int .i64) (.sl 90 (.int .u64)), y0, 1, none⟩), (1000129, ⟨90, .int .u64, y1, 99, none⟩)], [(4, ⟨44, [.int .i64 y2, .own 1000129], false⟩)], [], []⟩)
theorem spec_l4Eval.l7_ok : ∀ n v K, spec_l4Eval.l7.u n v K → loopM C X0 n 37 7 (spec_l4Eval.l7.s.fill v) K :=
 loop_tell hX (fn := Try.f37) (c := bodyOf Try.f37) (a := loopOf Try.f37 7) (li := liOf (C.fi 37).loops 7) (by kernel_rfl) (by kernel_rfl) (of_decide_eq_true rfl) (by kernel_rfl) (by kernel_rfl) (T := spec_l4Eval.l7.s) (u := spec_l4Eval.l7.u) (fun _ _ h => h) (call := D45) (lp := fun n => noL) (D45_ok hX) (fun n => noL_ok) (fun n v K => by kernel_rfl)
theorem spec_l4Eval.l3_ok : ∀ n v K, spec_l4Eval.l3.u n v K → loopM C X0 n 37 3 (spec_l4Eval.l3.s.fill v) K :=
 loop_tell hX (fn := Try.f37) (c := bodyOf Try.f37) (a := loopOf Try.f37 3) (li := liOf (C.fi 37).loops 3) (by kernel_rfl) (by kernel_rfl) (of_decide_eq_true rfl) (by kernel_rfl) (by kernel_rfl) (T := spec_l4Eval.l3.s) (u := spec_l4Eval.l3.u) (fun _ _ h => h) (call := D45) (lp := fun n => orL 7 spec_l4Eval.l7.s (spec_l4Eval.l7.u n) noL) (D45_ok hX) (fun n => (orL_ok (spec_l4Eval.l7_ok hX n) noL_ok)) (fun n v K => by kernel_rfl)
theorem spec_l4Eval_ok : ∀ n v K, spec_l4Eval.u n v K → callM C X0 n 37 (fillA spec_l4Eval.a v) K :=
 call_tell hX (fn := Try.f37) (c := bodyOf Try.f37) (by kernel_rfl) (by kernel_rfl) (A := spec_l4Eval.a) (u := spec_l4Eval.u) (fun _ _ h => h) (call := D45) (lp := fun n => orL 3 spec_l4Eval.l3.s (spec_l4Eval.l3.u n) noL) (D45_ok hX) (fun n => (orL_ok (spec_l4Eval.l3_ok hX n) noL_ok)) (fun n v K => by kernel_rfl)
def D46 (n : Nat) : CallF := orC 37 spec_l4Eval.a (spec_l4Eval.u n) (D45 n)
theorem D46_ok : ∀ n g a K, D46 n g a K → callM C X0 n g a K := fun n => orC_ok (spec_l4Eval_ok hX n) (D45_ok hX n)
abbrev spec_l3SameBits.a : List TS := [.a [.o (.int .i64), .o (.dat 90 (.int .u64))], .a [.o (.int .i64), .o (.dat 90 (.int .u64))]]
def spec_l3SameBits.u (n : Nat) (v : VA spec_l3SameBits.a) (K : RES → Prop) : Prop := spec_l3SameBits.c n v.1.1 v.1.2.1 v.2.1.1 v.2.1.2.1 (fun r0 => K ⟨.c (.bool r0), []⟩)
abbrev spec_l3SameBits.l4.s : ST := ⟨[(2, .c (.o (.pbox 2 0))), (3, .c (.o (.pbox 3 0))), (5, .c (.o (.int .i64)))], [], [⟨2, 44, [.o (.int .i64), .o (.dat 90 (.int .u64))], false⟩, ⟨3, 44, [.o (.int .i64), .o (.dat 90 (.int .u64))], false⟩], [], []⟩
def spec_l3SameBits.l4.u (n : Nat) (v : spec_l3SameBits.l4.s.V) (K : X → St → Prop) : Prop := spec_l3SameBits.l4 n v.2.2.1.1 v.2.2.1.2.1 v.2.2.2.1.1 v.2.2.2.1.2.1 v.1.2.2.1 (K (.exit 0) ⟨[], [], [], [], []⟩) (fun y0 => K .ret ⟨[(4, .c (.bool y0))], [], [], [], []⟩)
theorem spec_l3SameBits.l4_ok : ∀ n v K, spec_l3SameBits.l4.u n v K → loopM C X0 n 36 4 (spec_l3SameBits.l4.s.fill v) K :=
 loop_tell hX (fn := Try.f36) (c := bodyOf Try.f36) (a := loopOf Try.f36 4) (li := liOf (C.fi 36).loops 4) (by kernel_rfl) (by kernel_rfl) (of_decide_eq_true rfl) (by kernel_rfl) (by kernel_rfl) (T := spec_l3SameBits.l4.s) (u := spec_l3SameBits.l4.u) (fun _ _ h => h) (call := D46) (lp := fun n => noL) (D46_ok hX) (fun n => noL_ok) (fun n v K => by kernel_rfl)
theorem spec_l3SameBits_ok : ∀ n v K, spec_l3SameBits.u n v K → callM C X0 n 36 (fillA spec_l3SameBits.a v) K :=
 call_tell hX (fn := Try.f36) (c := bodyOf Try.f36) (by kernel_rfl) (by kernel_rfl) (A := spec_l3SameBits.a) (u := spec_l3SameBits.u) (fun _ _ h => h) (call := D46) (lp := fun n => orL 4 spec_l3SameBits.l4.s (spec_l3SameBits.l4.u n) noL) (D46_ok hX) (fun n => (orL_ok (spec_l3SameBits.l4_ok hX n) noL_ok)) (fun n v K => by kernel_rfl)
def D47 (n : Nat) : CallF := orC 36 spec_l3SameBits.a (spec_l3SameBits.u n) (D46 n)
theorem D47_ok : ∀ n g a K, D47 n g a K → callM C X0 n g a K := fun n => orC_ok (spec_l3SameBits_ok hX n) (D46_ok hX n)
abbrev spec_Holds.a : List TS := [.c (.o (.dat 112 (.prod .str (.int .i64)))), .c (.o (.dat 44 (.prod (.int .i64) (.sl 90 (.int .u64))))), .a [.o (.int .i64), .o .bool, .o (.dat 79 (.prod (.int .i64) (.prod (.int .i64) (.prod (.int .i64) (.prod (.int .i64) (.prod (.int .i64) (.prod (.sl 90 (.int .u64)) (.sl 2 (.int .i64))))))))), .o (.dat 79 (.prod (.int .i64) (.prod (.int .i64) (.prod (.int .i64) (.prod (.int .i64) (.prod (.int .i64) (.prod (.sl 90 (.int .u64)) (.sl 2 (.int .i64)))))))))]]
def spec_Holds.u (n : Nat) (v : VA spec_Holds.a) (K : RES → Prop) : Prop := spec_Holds.c n v.1 v.2.1 v.2.2.1.1 v.2.2.1.2.1 v.2.2.1.2.2.1 v.2.2.1.2.2.2.1 (fun r0 r1 => K ⟨.tup [.c (.bool r0), .c (.bool r1)], []⟩)
theorem spec_Holds_ok : ∀ n v K, spec_Holds.u n v K → callM C X0 n 9 (fillA spec_Holds.a v) K :=
 call_tell hX (fn := Try.f9) (c := bodyOf Try.f9) (by kernel_rfl) (by kernel_rfl) (A := spec_Holds.a) (u := spec_Holds.u) (fun _ _ h => h) (call := D47) (lp := fun n => noL) (D47_ok hX) (fun n => noL_ok) (fun n v K => by kernel_rfl)
def D48 (n : Nat) : CallF := orC 9 spec_Holds.a (spec_Holds.u n) (D47 n)
theorem D48_ok : ∀ n g a K, D48 n g a K → callM C X0 n g a K := fun n => orC_ok (spec_Holds_ok hX n) (D47_ok hX n)
abbrev impl_nameOk.a : List TS := [.c (.o .str)]
def impl_nameOk.u (n : Nat) (v : VA impl_nameOk.a) (K : RES → Prop) : Prop := impl_nameOk.c n v.1 (fun r0 => K ⟨.c (.bool r0), []⟩)
abbrev impl_nameOk.l4.s : ST := ⟨[(0, .c (.o .str)), (3, .c (.o (.int .i64)))], [], [], [], []⟩
def impl_nameOk.l4.u (n : Nat) (v : impl_nameOk.l4.s.V) (K : X → St → Prop) : Prop := impl_nameOk.l4 n v.1.1 v.1.2.1 (K (.exit 0) ⟨[], [], [], [], []⟩) (fun y0 => K .ret ⟨[(2, .c (.bool y0))], [], [], [], []⟩)
theorem impl_nameOk.l4_ok : ∀ n v K, impl_nameOk.l4.u n v K → loopM C X0 n 99 4 (impl_nameOk.l4.s.fill v) K :=
 loop_tell hX (fn := Try.f99) (c := bodyOf Try.f99) (a := loopOf Try.f99 4) (li := liOf (C.fi 99).loops 4) (by kernel_rfl) (by kernel_rfl) (of_decide_eq_true rfl) (by kernel_rfl) (by kernel_rfl) (T := impl_nameOk.l4.s) (u := impl_nameOk.l4.u) (fun _ _ h => h) (call := D48) (lp := fun n => noL) (D48_ok hX) (fun n => noL_ok) (fun n v K => by kernel_rfl)
theorem impl_nameOk_ok : ∀ n v K, impl_nameOk.u n v K → callM C X0 n 99 (fillA impl_nameOk.a v) K :=
 call_tell hX (fn := Try.f99) (c := bodyOf Try.f99) (by kernel_rfl) (by kernel_rfl) (A := impl_nameOk.a) (u := impl_nameOk.u) (fun _ _ h => h) (call := D48) (lp := fun n => orL 4 impl_nameOk.l4.s (impl_nameOk.l4.u n) noL) (D48_ok hX) (fun n => (orL_ok (impl_nameOk.l4_ok hX n) noL_ok)) (fun n v K => by kernel_rfl)
def D49 (n : Nat) : CallF := orC 99 impl_nameOk.a (impl_nameOk.u n) (D48 n)
theorem D49_ok : ∀ n g a K, D49 n g a K → callM C X0 n g a K := fun n => orC_ok (impl_nameOk_ok hX n) (D48_ok hX n)
abbrev impl_inside.a : List TS := [.c (.o (.int .i64)), .c (.o (.int .i64)), .c (.o (.int .i64))]
def impl_inside.u (n : Nat) (v : VA impl_inside.a) (K : RES → Prop) : Prop := impl_inside.c n v.1 v.2.1 v.2.2.1 (fun r0 => K ⟨.c (.bool r0), []⟩)
theorem impl_inside_ok : ∀ n v K, impl_inside.u n v K → callM C X0 n 87 (fillA impl_inside.a v) K :=
 call_tell hX (fn := Try.f87) (c := bodyOf Try.f87) (by kernel_rfl) (by kernel_rfl) (A := impl_inside.a) (u := impl_inside.u) (fun _ _ h => h) (call := D49) (lp := fun n => noL) (D49_ok hX) (fun n => noL_ok) (fun n v K => by kernel_rfl)
def D50 (n : Nat) : CallF := orC 87 impl_inside.a (impl_inside.u n) (D49 n)
theorem D50_ok : ∀ n g a K, D50 n g a K → callM C X0 n g a K := fun n => orC_ok (impl_inside_ok hX n) (D49_ok hX n)
abbrev impl_declared_1.a : List TS := [.a [.o .str, .o (.int .i64)], .c (.o (.pdat 9 .str 0))]
def impl_declared_1.u (n : Nat) (v : VA impl_declared_1.a) (K : RES → Prop) : Prop := impl_declared_1.c n v.1.1 v.1.2.1 v.2.1 (fun r0 => K ⟨.c (.bool r0), []⟩)
theorem impl_declared_1_ok : ∀ n v K, impl_declared_1.u n v K → callM C X0 n 136 (fillA impl_declared_1.a v) K :=
 call_tell hX (fn := Try.f136) (c := bodyOf Try.f136) (by kernel_rfl) (by kernel_rfl) (A := impl_declared_1.a) (u := impl_declared_1.u) (fun _ _ h => h) (call := D50) (lp := fun n => noL) (D50_ok hX) (fun n => noL_ok) (fun n v K => by kernel_rfl)
def D51 (n : Nat) : CallF := orC 136 impl_declared_1.a (impl_declared_1.u n) (D50 n)
theorem D51_ok : ∀ n g a K, D51 n g a K → callM C X0 n g a K := fun n => orC_ok (impl_declared_1_ok hX n) (D50_ok hX n)
abbrev slices_IndexFunc_Decl__impl_declared_1.a : List TS := [.c (.o (.dat 112 (.prod .str (.int .i64)))), .c (.fn 136 [(false, 1)] 0 [.pdat 9 .str 0])]
def slices_IndexFunc_Decl__impl_declared_1.u (n : Nat) (v : VA slices_IndexFunc_Decl__impl_declared_1.a) (K : RES → Prop) : Prop := slices_IndexFunc_Decl__impl_declared_1.c n v.1 v.2.1.1 (fun r0 => K ⟨.c (.int .i64 r0), []⟩)
abbrev slices_IndexFunc_Decl__impl_declared_1.l2.s : ST := ⟨[(0, .c (.o (.dat 112 (.prod .str (.int .i64))))), (1, .c (.fn 136 [(false, 1)] 0 [.pdat 9 .str 0])), (7, .c (.o (.int .i64))), (8, .c (.o (.int .i64)))], [], [], [], []⟩
def slices_IndexFunc_Decl__impl_declared_1.l2.u (n : Nat) (v : slices_IndexFunc_Decl__impl_declared_1.l2.s.V) (K : X → St → Prop) : Prop := slices_IndexFunc_Decl__impl_declared_1.l2 n v.1.1 v.1.2.1.1 v.1.2.2.1 v.1.2.2.2.1 (K (.exit 0) ⟨[], [], [], [], []⟩) (fun y0 => K .ret ⟨[(4, .c (.int .i64 y0))], [], [], [], []⟩)
theorem slices_IndexFunc_Decl__impl_declared_1.l2_ok : ∀ n v K, slices_IndexFunc_Decl__impl_declared_1.l2.u n v K → loopM C X0 n 135 2 (slices_IndexFunc_Decl__impl_declared_1.l2.s.fill v) K :=
 loop_tell hX (fn := Try.f135) (c := bodyOf Try.f135) (a := loopOf Try.f135 2) (li := liOf (C.fi 135).loops 2) (by kernel_rfl) (by kernel_rfl) (of_decide_eq_true rfl) (by kernel_rfl) (by kernel_rfl) (T := slices_IndexFunc_Decl__impl_declared_1.l2.s) (u := slices_IndexFunc_Decl__impl_declared_1.l2.u) (fun _ _ h => h) (call := D51) (lp := fun n => noL) (D51_ok hX) (fun n => noL_ok) (fun n v K => by kernel_rfl)
theorem slices_IndexFunc_Decl__impl_declared_1_ok : ∀ n v K, slices_IndexFunc_Decl__impl_declared_1.u n v K → callM C X0 n 135 (fillA slices_IndexFunc_Decl__impl_declared_1.a v) K :=
 call_tell hX (fn := Try.f135) (c := bodyOf Try.f135) (by kernel_rfl) (by kernel_rfl) (A := slices_IndexFunc_Decl__impl_declared_1.a) (u := slices_IndexFunc_Decl__impl_declared_1.u) (fun _ _ h => h) (call := D51) (lp := fun n => orL 2 slices_IndexFunc_Decl__impl_declared_1.l2.s (slices_IndexFunc_Decl__impl_declared_1.l2.u n) noL) (D51_ok hX) (fun n => (orL_ok (slices_IndexFunc_Decl__impl_declared_1.l2_ok hX n) noL_ok)) (fun n v K => by kernel_rfl)
def D52 (n : Nat) : CallF := orC 135 slices_IndexFunc_Decl__impl_declared_1.a (slices_IndexFunc_Decl__impl_declared_1.u n) (D51 n)
theorem D52_ok : ∀ n g a K, D52 n g a K → callM C X0 n g a K := fun n => orC_ok (slices_IndexFunc_Decl__impl_declared_1_ok hX n) (D51_ok hX n)
abbrev impl_declared.a : List TS := [.c (.o (.dat 112 (.prod .str (.int .i64)))), .c (.o .str)]
def impl_declared.u (n : Nat) (v : VA impl_declared.a) (K : RES → Prop) : Prop := impl_declared.c n v.1 v.2.1 (fun r0 => K ⟨.c (.int .i64 r0), []⟩)
theorem impl_declared_ok : ∀ n v K, impl_declared.u n v K → callM C X0 n 100 (fillA impl_declared.a v) K :=
 call_tell hX (fn := Try.f100) (c := bodyOf Try.f100) (by kernel_rfl) (by kernel_rfl) (A := impl_declared.a) (u := impl_declared.u) (fun _ _ h => h) (call := D52) (lp := fun n => noL) (D52_ok hX) (fun n => noL_ok) (fun n v K => by kernel_rfl)
def D53 (n : Nat) : CallF := orC 100 impl_declared.a (impl_declared.u n) (D52 n)
theorem D53_ok : ∀ n g a K, D53 n g a K → callM C X0 n g a K := fun n => orC_ok (impl_declared_ok hX n) (D52_ok hX n)
abbrev impl_DeclsOk.a : List TS := [.c (.o (.dat 112 (.prod .str (.int .i64))))]
def impl_DeclsOk.u (n : Nat) (v : VA impl_DeclsOk.a) (K : RES → Prop) : Prop := impl_DeclsOk.c n v.1 (fun r0 => K ⟨.c (.bool r0), []⟩)
abbrev impl_DeclsOk.l5.s : ST := ⟨[(0, .c (.o (.dat 112 (.prod .str (.int .i64))))), (3, .c (.o (.int .i64))), (9, .c (.o (.dat 112 (.prod .str (.int .i64))))), (10, .c (.o (.int .i64))), (11, .c (.o (.int .i64)))], [], [], [], []⟩
def impl_DeclsOk.l5.u (n : Nat) (v : impl_DeclsOk.l5.s.V) (K : X → St → Prop) : Prop := impl_DeclsOk.l5 n v.1.1 v.1.2.2.1 v.1.2.2.2.1 v.1.2.1 v.1.2.2.2.2.1 (fun y0 => K (.exit 0) ⟨[(3, .c (.int .i64 y0))], [], [], [], []⟩) (fun y0 => K .ret ⟨[(2, .c (.bool y0))], [], [], [], []⟩)
theorem impl_DeclsOk.l5_ok : ∀ n v K, impl_DeclsOk.l5.u n v K → loopM C X0 n 56 5 (impl_DeclsOk.l5.s.fill v) K :=
 loop_tell hX (fn := Try.f56) (c := bodyOf Try.f56) (a := loopOf Try.f56 5) (li := liOf (C.fi 56).loops 5) (by kernel_rfl) (by kernel_rfl) (of_decide_eq_true rfl) (by kernel_rfl) (by kernel_rfl) (T := impl_DeclsOk.l5.s) (u := impl_DeclsOk.l5.u) (fun _ _ h => h) (call := D53) (lp := fun n => noL) (D53_ok hX) (fun n => noL_ok) (fun n v K => by kernel_rfl)
theorem impl_DeclsOk_ok : ∀ n v K, impl_DeclsOk.u n v K → callM C X0 n 56 (fillA impl_DeclsOk.a v) K :=
 call_tell hX (fn := Try.f56) (c := bodyOf Try.f56) (by kernel_rfl) (by kernel_rfl) (A := impl_DeclsOk.a) (u := impl_DeclsOk.u) (fun _ _ h => h) (call := D53) (lp := fun n => orL 5 impl_DeclsOk.l5.s (impl_DeclsOk.l5.u n) noL) (D53_ok hX) (fun n => (orL_ok (impl_DeclsOk.l5_ok hX n) noL_ok)) (fun n v K => by kernel_rfl)
def D54 (n : Nat) : CallF := orC 56 impl_DeclsOk.a (impl_DeclsOk.u n) (D53 n)
theorem D54_ok : ∀ n g a K, D54 n g a K → callM C X0 n g a K := fun n => orC_ok (impl_DeclsOk_ok hX n) (D53_ok hX n)
abbrev impl_wordsFor.a : List TS := [.c (.o (.int .i64))]
def impl_wordsFor.u (n : Nat) (v : VA impl_wordsFor.a) (K : RES → Prop) : Prop := impl_wordsFor.c n v.1 (fun r0 => K ⟨.c (.int .i64 r0), []⟩)
theorem impl_wordsFor_ok : ∀ n v K, impl_wordsFor.u n v K → callM C X0 n 98 (fillA impl_wordsFor.a v) K :=
 call_tell hX (fn := Try.f98) (c := bodyOf Try.f98) (by kernel_rfl) (by kernel_rfl) (A := impl_wordsFor.a) (u := impl_wordsFor.u) (fun _ _ h => h) (call := D54) (lp := fun n => noL) (D54_ok hX) (fun n => noL_ok) (fun n v K => by kernel_rfl)
def D55 (n : Nat) : CallF := orC 98 impl_wordsFor.a (impl_wordsFor.u n) (D54 n)
theorem D55_ok : ∀ n g a K, D55 n g a K → callM C X0 n g a K := fun n => orC_ok (impl_wordsFor_ok hX n) (D54_ok hX n)
abbrev impl_BitsOk.a : List TS := [.a [.o (.int .i64), .o (.dat 90 (.int .u64))]]
def impl_BitsOk.u (n : Nat) (v : VA impl_BitsOk.a) (K : RES → Prop) : Prop := impl_BitsOk.c n v.1.1 v.1.2.1 (fun r0 => K ⟨.c (.bool r0), []⟩)
theorem impl_BitsOk_ok : ∀ n v K, impl_BitsOk.u n v K → callM C X0 n 117 (fillA impl_BitsOk.a v) K :=
 call_tell hX (fn := Try.f117) (c := bodyOf Try.f117) (by kernel_rfl) (by kernel_rfl) (A := impl_BitsOk.a) (u := impl_BitsOk.u) (fun _ _ h => h) (call := D55) (lp := fun n => noL) (D55_ok hX) (fun n => noL_ok) (fun n v K => by kernel_rfl)
def D56 (n : Nat) : CallF := orC 117 impl_BitsOk.a (impl_BitsOk.u n) (D55 n)
theorem D56_ok : ∀ n g a K, D56 n g a K → callM C X0 n g a K := fun n => orC_ok (impl_BitsOk_ok hX n) (D55_ok hX n)
abbrev impl_valuesOk.a : List TS := [.c (.o (.dat 112 (.prod .str (.int .i64)))), .c (.o (.dat 44 (.prod (.int .i64) (.sl 90 (.int .u64)))))]
def impl_valuesOk.u (n : Nat) (v : VA impl_valuesOk.a) (K : RES → Prop) : Prop := impl_valuesOk.c n v.1 v.2.1 (fun r0 => K ⟨.c (.bool r0), []⟩)
abbrev impl_valuesOk.l4.s : ST := ⟨[(0, .c (.o (.dat 112 (.prod .str (.int .i64))))), (12, .c (.o (.dat 44 (.prod (.int .i64) (.sl 90 (.int .u64)))))), (13, .c (.o (.int .i64))), (14, .c (.o (.int .i64)))], [], [], [], []⟩
def impl_valuesOk.l4.u (n : Nat) (v : impl_valuesOk.l4.s.V) (K : X → St → Prop) : Prop := impl_valuesOk.l4 n v.1.1 v.1.2.1 v.1.2.2.1 v.1.2.2.2.1 (K (.exit 0) ⟨[], [], [], [], []⟩) (fun y0 => K .ret ⟨[(4, .c (.bool y0))], [], [], [], []⟩)
theorem impl_valuesOk.l4_ok : ∀ n v K, impl_valuesOk.l4.u n v K → loopM C X0 n 86 4 (impl_valuesOk.l4.s.fill v) K :=
 loop_tell hX (fn := Try.f86) (c := bodyOf Try.f86) (a := loopOf Try.f86 4) (li := liOf (C.fi 86).loops 4) (by kernel_rfl) (by kernel_rfl) (of_decide_eq_true rfl) (by kernel_rfl) (by kernel_rfl) (T := impl_valuesOk.l4.s) (u := impl_valuesOk.l4.u) (fun _ _ h => h) (call := D56) (lp := fun n => noL) (D56_ok hX) (fun n => noL_ok) (fun n v K => by kernel_rfl)
theorem impl_valuesOk_ok : ∀ n v K, impl_valuesOk.u n v K → callM C X0 n 86 (fillA impl_valuesOk.a v) K :=
 call_tell hX (fn := Try.f86) (c := bodyOf Try.f86) (by kernel_rfl) (by kernel_rfl) (A := impl_valuesOk.a) (u := impl_valuesOk.u) (fun _ _ h => h) (call := D56) (lp := fun n => orL 4 impl_valuesOk.l4.s (impl_valuesOk.l4.u n) noL) (D56_ok hX) (fun n => (orL_ok (impl_valuesOk.l4_ok hX n) noL_ok)) (fun n v K => by kernel_rfl)
def D57 (n : Nat) : CallF := orC 86 impl_valuesOk.a (impl_valuesOk.u n) (D56 n)
theorem D57_ok : ∀ n g a K, D57 n g a K → callM C X0 n g a K := fun n => orC_ok (impl_valuesOk_ok hX n) (D56_ok hX n)
abbrev impl_ValuesOk.a : List TS := [.c (.o (.dat 112 (.prod .str (.int .i64)))), .c (.o (.dat 44 (.prod (.int .i64) (.sl 90 (.int .u64)))))]
def impl_ValuesOk.u (n : Nat) (v : VA impl_ValuesOk.a) (K : RES → Prop) : Prop := impl_ValuesOk.c n v.1 v.2.1 (fun r0 => K ⟨.c (.bool r0), []⟩)
theorem impl_ValuesOk_ok : ∀ n v K, impl_ValuesOk.u n v K → callM C X0 n 38 (fillA impl_ValuesOk.a v) K :=
 call_tell hX (fn := Try.f38) (c := bodyOf Try.f38) (by kernel_rfl) (by kernel_rfl) (A := impl_ValuesOk.a) (u := impl_ValuesOk.u) (fun _ _ h => h) (call := D57) (lp := fun n => noL) (D57_ok hX) (fun n => noL_ok) (fun n v K => by kernel_rfl)
def D58 (n : Nat) : CallF := orC 38 impl_ValuesOk.a (impl_ValuesOk.u n) (D57 n)
theorem D58_ok : ∀ n g a K, D58 n g a K → callM C X0 n g a K := fun n => orC_ok (impl_ValuesOk_ok hX n) (D57_ok hX n)
abbrev impl_TNode_width.a : List TS := [.c (.o (.pdat 79 (.prod (.int .i64) (.prod (.int .i64) (.prod (.int .i64) (.prod (.int .i64) (.prod (.int .i64) (.prod (.sl 90 (.int .u64)) (.sl 2 (.int .i64)))))))) 0)), .c (.o (.dat 112 (.prod .str (.int .i64)))), .c (.o (.dat 2 (.int .i64)))]
def impl_TNode_width.u (n : Nat) (v : VA impl_TNode_width.a) (K : RES → Prop) : Prop := impl_TNode_width.c n v.1 v.2.1 v.2.2.1 (fun r0 => K ⟨.c (.int .i64 r0), []⟩)
abbrev impl_TNode_width.l11.s : ST := ⟨[(8, .c (.o (.int .i64))), (80, .c (.o (.dat 2 (.int .i64)))), (81, .c (.o (.int .i64))), (82, .c (.o (.int .i64)))], [], [], [], []⟩
def impl_TNode_width.l11.u (n : Nat) (v : impl_TNode_width.l11.s.V) (K : X → St → Prop) : Prop := impl_TNode_width.l11 n v.1.2.1 v.1.2.2.1 v.1.1 v.1.2.2.2.1 (fun y0 => K (.exit 1) ⟨[(8, .c (.int .i64 y0))], [], [], [], []⟩)
abbrev impl_TNode_width.q21.s : ST := ⟨[(0, .c (.o (.pdat 79 (.prod (.int .i64) (.prod (.int .i64) (.prod (.int .i64) (.prod (.int .i64) (.prod (.int .i64) (.prod (.sl 90 (.int .u64)) (.sl 2 (.int .i64)))))))) 0))), (7, .c (.o (.int .i64))), (137, .c (.o .bool))], [], [], [], []⟩
def impl_TNode_width.q21.u (n : Nat) (v : impl_TNode_width.q21.s.V) (K : X → St → Prop) : Prop := impl_TNode_width.q21 n v.1.1 v.1.2.1 v.1.2.2.1 (fun y0 => K .ret ⟨[(6, .c (.int .i64 y0))], [], [], [], []⟩) (K .normal ⟨[], [], [], [], []⟩)
abbrev impl_TNode_width.q9.s : ST := ⟨[(0, .c (.o (.pdat 79 (.prod (.int .i64) (.prod (.int .i64) (.prod (.int .i64) (.prod (.int .i64) (.prod (.int .i64) (.prod (.sl 90 (.int .u64)) (.sl 2 (.int .i64)))))))) 0))), (2, .c (.o (.dat 2 (.int .i64)))), (7, .c (.o (.int .i64))), (69, .c (.o .bool))], [], [], [], []⟩
def impl_TNode_width.q9.u (n : Nat) (v : impl_TNode_width.q9.s.V) (K : X → St → Prop) : Prop := impl_TNode_width.q9 n v.1.1 v.1.2.1 v.1.2.2.1 v.1.2.2.2.1 (fun y0 => K .ret ⟨[(6, .c (.int .i64 y0))], [], [], [], []⟩) (K .normal ⟨[], [], [], [], []⟩)
abbrev impl_TNode_width.q5.s : ST := ⟨[(0, .c (.o (.pdat 79 (.prod (.int .i64) (.prod (.int .i64) (.prod (.int .i64) (.prod (.int .i64) (.prod (.int .i64) (.prod (.sl 90 (.int .u64)) (.sl 2 (.int .i64)))))))) 0))), (1, .c (.o (.dat 112 (.prod .str (.int .i64))))), (2, .c (.o (.dat 2 (.int .i64)))), (7, .c (.o (.int .i64))), (17, .c (.o .bool))], [], [], [], []⟩
def impl_TNode_width.q5.u (n : Nat) (v : impl_TNode_width.q5.s.V) (K : X → St → Prop) : Prop := impl_TNode_width.q5 n v.1.1 v.1.2.1 v.1.2.2.1 v.1.2.2.2.1 v.1.2.2.2.2.1 (fun y0 => K .ret ⟨[(6, .c (.int .i64 y0))], [], [], [], []⟩) (K .normal ⟨[], [], [], [], []⟩)
theorem impl_TNode_width.l11_ok : ∀ n v K, impl_TNode_width.l11.u n v K → loopM C X0 n 127 11 (impl_TNode_width.l11.s.fill v) K :=
 loop_tell hX (fn := Try.f127) (c := bodyOf Try.f127) (a := loopOf Try.f127 11) (li := liOf (C.fi 127).loops 11) (by kernel_rfl) (by kernel_rfl) (of_decide_eq_true rfl) (by kernel_rfl) (by kernel_rfl) (T := impl_TNode_width.l11.s) (u := impl_TNode_width.l11.u) (fun _ _ h => h) (call := D58) (lp := fun n => noL) (D58_ok hX) (fun n => noL_ok) (fun n v K => by kernel_rfl)
theorem impl_TNode_width.q21_ok : ∀ n v K, impl_TNode_width.q21.u n v K → loopM C X0 n 127 1000021 (impl_TNode_width.q21.s.fill v) K :=
 cut_tell hX (fn := Try.f127) (c := bodyOf Try.f127) (a := cutOf Try.f127 21) (li := liOf (C.fi 127).loops 1000021) (by kernel_rfl) (by kernel_rfl) (of_decide_eq_true rfl) (by kernel_rfl) (by kernel_rfl) (T := impl_TNode_width.q21.s) (u := impl_TNode_width.q21.u) (fun _ _ h => h) (call := D58) (lp := fun n => noL) (D58_ok hX) (fun n => noL_ok) (fun n v K => by kernel_rfl)
theorem impl_TNode_width.q9_ok : ∀ n v K, impl_TNode_width.q9.u n v K → loopM C X0 n 127 1000009 (impl_TNode_width.q9.s.fill v) K :=
 cut_tell hX (fn := Try.f127) (c := bodyOf Try.f127) (a := cutOf Try.f127 9) (li := liOf (C.fi 127).loops 1000009) (by kernel_rfl) (by kernel_rfl) (of_decide_eq_true rfl) (by kernel_rfl) (by kernel_rfl) (T := impl_TNode_width.q9.s) (u := impl_TNode_width.q9.u) (fun _ _ h => h) (call := D58) (lp := fun n => orL 11 impl_TNode_width.l11.s (impl_TNode_width.l11.u n) (orL 1000021 impl_TNode_width.q21.s (impl_TNode_width.q21.u n) noL)) (D58_ok hX) (fun n => (orL_ok (impl_TNode_width.l11_ok hX n) (orL_ok (impl_TNode_width.q21_ok hX n) noL_ok))) (fun n v K => by kernel_rfl)
theorem impl_TNode_width.q5_ok : ∀ n v K, impl_TNode_width.q5.u n v K → loopM C X0 n 127 1000005 (impl_TNode_width.q5.s.fill v) K :=
 cut_tell hX (fn := Try.f127) (c := bodyOf Try.f127) (a := cutOf Try.f127 5) (li := liOf (C.fi 127).loops 1000005) (by kernel_rfl) (by kernel_rfl) (of_decide_eq_true rfl) (by kernel_rfl) (by kernel_rfl) (T := impl_TNode_width.q5.s) (u := impl_TNode_width.q5.u) (fun _ _ h => h) (call := D58) (lp := fun n => orL 1000009 impl_TNode_width.q9.s (impl_TNode_width.q9.u n) noL) (D58_ok hX) (fun n => (orL_ok (impl_TNode_width.q9_ok hX n) noL_ok)) (fun n v K => by kernel_rfl)
theorem impl_TNode_width_ok : ∀ n v K, impl_TNode_width.u n v K → callM C X0 n 127 (fillA impl_TNode_width.a v) K :=
 call_tell hX (fn := Try.f127) (c := bodyOf Try.f127) (by kernel_rfl) (by kernel_rfl) (A := impl_TNode_width.a) (u := impl_TNode_width.u) (fun _ _ h => h) (call := D58) (lp := fun n => orL 1000005 impl_TNode_width.q5.s (impl_TNode_width.q5.u n) noL) (D58_ok hX) (fun n => (orL_ok (impl_TNode_width.q5_ok hX n) noL_ok)) (fun n v K => by kernel_rfl)
def D59 (n : Nat) : CallF := orC 127 impl_TNode_width.a (impl_TNode_width.u n) (D58 n)
theorem D59_ok : ∀ n g a K, D59 n g a K → callM C X0 n g a K := fun n => orC_ok (impl_TNode_width_ok hX n) (D58_ok hX n)
abbrev impl_TNode_plain.a : List TS := [.c (.o (.pdat 79 (.prod (.int .i64) (.prod (.int .i64) (.prod (.int .i64) (.prod (.int .i64) (.prod (.int .i64) (.prod (.sl 90 (.int .u64)) (.sl 2 (.int .i64)))))))) 0))]
def impl_TNode_plain.u (n : Nat) (v : VA impl_TNode_plain.a) (K : RES → Prop) : Prop := impl_TNode_plain.c n v.1 (fun r0 => K ⟨.c (.bool r0), []⟩)
abbrev impl_TNode_plain.q3.s : ST := ⟨[(0, .c (.o (.pdat 79 (.prod (.int .i64) (.prod (.int .i64) (.prod (.int .i64) (.prod (.int .i64) (.prod (.int .i64) (.prod (.sl 90 (.int .u64)) (.sl 2 (.int .i64)))))))) 0))), (52, .c (.o .bool))], [], [], [], []⟩
def impl_TNode_plain.q3.u (n : Nat) (v : impl_TNode_plain.q3.s.V) (K : X → St → Prop) : Prop := impl_TNode_plain.q3 n v.1.1 v.1.2.1 (fun y0 => K .ret ⟨[(2, .c (.bool y0))], [], [], [], []⟩) (fun y0 => K .normal ⟨[(0, .c (.pdat 79 (.prod (.int .i64) (.prod (.int .i64) (.prod (.int .i64) (.prod (.int .i64) (.prod (.int .i64) (.prod (.sl 90 (.int .u64)) (.sl 2 (.int .i64)))))))) y0 0))], [], [], [], []⟩)
abbrev impl_TNode_plain.q2.s : ST := ⟨[(0, .c (.o (.pdat 79 (.prod (.int .i64) (.prod (.int .i64) (.prod (.int .i64) (.prod (.int .i64) (.prod (.int .i64) (.prod (.sl 90 (.int .u64)) (.sl 2 (.int .i64)))))))) 0))), (3, .c (.o .bool))], [], [], [], []⟩
def impl_TNode_plain.q2.u (n : Nat) (v : impl_TNode_plain.q2.s.V) (K : X → St → Prop) : Prop := impl_TNode_plain.q2 n v.1.1 v.1.2.1 (fun y0 => K .ret ⟨[(2, .c (.bool y0))], [], [], [], []⟩)
theorem impl_TNode_plain.q3_ok : ∀ n v K, impl_TNode_plain.q3.u n v K → loopM C X0 n 128 1000003 (impl_TNode_plain.q3.s.fill v) K :=
 cut_tell hX (fn := Try.f128) (c := bodyOf Try.f128) (a := cutOf Try.f128 3) (li := liOf (C.fi 128).loops 1000003) (by kernel_rfl) (by kernel_rfl) (of_decide_eq_true rfl) (by kernel_rfl) (by kernel_rfl) (T := impl_TNode_plain.q3.s) (u := impl_TNode_plain.q3.u) (fun _ _ h => h) (call := D59) (lp := fun n => noL) (D59_ok hX) (fun n => noL_ok) (fun n v K => by kernel_rfl)
theorem impl_TNode_plain.q2_ok : ∀ n v K, impl_TNode_plain.q2.u n v K → loopM C X0 n 128 1000002 (impl_TNode_plain.q2.s.fill v) K :=
 cut_tell hX (fn := Try.f128) (c := bodyOf Try.f128) (a := cutOf Try.f128 2) (li := liOf (C.fi 128).loops 1000002) (by kernel_rfl) (by kernel_rfl) (of_decide_eq_true rfl) (by kernel_rfl) (by kernel_rfl) (T := impl_TNode_plain.q2.s) (u := impl_TNode_plain.q2.u) (fun _ _ h => h) (call := D59) (lp := fun n => orL 1000003 impl_TNode_plain.q3.s (impl_TNode_plain.q3.u n) noL) (D59_ok hX) (fun n => (orL_ok (impl_TNode_plain.q3_ok hX n) noL_ok)) (fun n v K => by kernel_rfl)
theorem impl_TNode_plain_ok : ∀ n v K, impl_TNode_plain.u n v K → callM C X0 n 128 (fillA impl_TNode_plain.a v) K :=
 call_tell hX (fn := Try.f128) (c := bodyOf Try.f128) (by kernel_rfl) (by kernel_rfl) (A := impl_TNode_plain.a) (u := impl_TNode_plain.u) (fun _ _ h => h) (call := D59) (lp := fun n => orL 1000002 impl_TNode_plain.q2.s (impl_TNode_plain.q2.u n) noL) (D59_ok hX) (fun n => (orL_ok (impl_TNode_plain.q2_ok hX n) noL_ok)) (fun n v K => by kernel_rfl)
def D60 (n : Nat) : CallF := orC 128 impl_TNode_plain.a (impl_TNode_plain.u n) (D59 n)
theorem D60_ok : ∀ n g a K, D60 n g a K → callM C X0 n g a K := fun n => orC_ok (impl_TNode_plain_ok hX n) (D59_ok hX n)
end
end Go.Vsi
end

section
set_option linter.unusedVariables false
namespace Go.Vsi
open Go.Proofs
section
variable {X0 : CallF} (hX : CallF.Mono X0)
include hX
abbrev slices_Index_bool.a : List TS := [.c (.o (.dat 4 .bool)), .c (.o .bool)]
def slices_Index_bool.u (n : Nat) (v : VA slices_Index_bool.a) (K : RES → Prop) : Prop := slices_Index_bool.c n v.1 v.2.1 (fun r0 => K ⟨.c (.int .i64 r0), []⟩)
abbrev slices_Index_bool.l2.s : ST := ⟨[(0, .c (.o (.dat 4 .bool))), (1, .c (.o .bool)), (7, .c (.o (.int .i64))), (8, .c (.o (.int .i64)))], [], [], [], []⟩
def slices_Index_bool.l2.u (n : Nat) (v : slices_Index_bool.l2.s.V) (K : X → St → Prop) : Prop := slices_Index_bool.l2 n v.1.1 v.1.2.1 v.1.2.2.1 v.1.2.2.2.1 (K (.exit 0) ⟨[], [], [], [], []⟩) (fun y0 => K .ret ⟨[(4, .c (.int .i64 y0))], [], [], [], []⟩)
theorem slices_Index_bool.l2_ok : ∀ n v K, slices_Index_bool.l2.u n v K → loopM C X0 n 142 2 (slices_Index_bool.l2.s.fill v) K :=
 loop_tell hX (fn := Try.f142) (c := bodyOf Try.f142) (a := loopOf Try.f142 2) (li := liOf (C.fi 142).loops 2) (by kernel_rfl) (by kernel_rfl) (of_decide_eq_true rfl) (by kernel_rfl) (by kernel_rfl) (T := slices_Index_bool.l2.s) (u := slices_Index_bool.l2.u) (fun _ _ h => h) (call := D60) (lp := fun n => noL) (D60_ok hX) (fun n => noL_ok) (fun n v K => by kernel_rfl)
theorem slices_Index_bool_ok : ∀ n v K, slices_Index_bool.u n v K → callM C X0 n 142 (fillA slices_Index_bool.a v) K :=
 call_tell hX (fn := Try.f142) (c := bodyOf Try.f142) (by kernel_rfl) (by kernel_rfl) (A := slices_Index_bool.a) (u := slices_Index_bool.u) (fun _ _ h => h) (call := D60) (lp := fun n => orL 2 slices_Index_bool.l2.s (slices_Index_bool.l2.u n) noL) (D60_ok hX) (fun n => (orL_ok (slices_Index_bool.l2_ok hX n) noL_ok)) (fun n v K => by kernel_rfl)
def D61 (n : Nat) : CallF := orC 142 slices_Index_bool.a (slices_Index_bool.u n) (D60 n)
theorem D61_ok : ∀ n g a K, D61 n g a K → callM C X0 n g a K := fun n => orC_ok (slices_Index_bool_ok hX n) (D60_ok hX n)
abbrev slices_Contains_bool.a : List TS := [.c (.o (.dat 4 .bool)), .c (.o .bool)]
def slices_Contains_bool.u (n : Nat) (v : VA slices_Contains_bool.a) (K : RES → Prop) : Prop := slices_Contains_bool.c n v.1 v.2.1 (fun r0 => K ⟨.c (.bool r0), []⟩)
theorem slices_Contains_bool_ok : ∀ n v K, slices_Contains_bool.u n v K → callM C X0 n 129 (fillA slices_Contains_bool.a v) K :=
 call_tell hX (fn := Try.f129) (c := bodyOf Try.f129) (by kernel_rfl) (by kernel_rfl) (A := slices_Contains_bool.a) (u := slices_Contains_bool.u) (fun _ _ h => h) (call := D61) (lp := fun n => noL) (D61_ok hX) (fun n => noL_ok) (fun n v K => by kernel_rfl)
def D62 (n : Nat) : CallF := orC 129 slices_Contains_bool.a (slices_Contains_bool.u n) (D61 n)
theorem D62_ok : ∀ n g a K, D62 n g a K → callM C X0 n g a K := fun n => orC_ok (slices_Contains_bool_ok hX n) (D61_ok hX n)
abbrev impl_widths.a : List TS := [.c (.o (.dat 112 (.prod .str (.int .i64)))), .a [.o (.dat 79 (.prod (.int .i64) (.prod (.int .i64) (.prod (.int .i64) (.prod (.int .i64) (.prod (.int .i64) (.prod (.sl 90 (.int .u64)) (.sl 2 (.int .i64)))))))))]]
def impl_widths.u (n : Nat) (v : VA impl_widths.a) (K : RES → Prop) : Prop := impl_widths.c n v.1 v.2.1.1 (fun r0 r1 => K ⟨.tup [.c (.row ⟨2, .int .i64, r0, 99, none⟩), .c (.bool r1)], []⟩)
abbrev impl_widths.l13.s : ST := ⟨[(0, .c (.o (.dat 112 (.prod .str (.int .i64))))), (3, .c (.o (.pbox 3 0))), (6, .c (.o (.int .i64))), (7, .c (.o (.own 768))), (8, .c (.o (.own 832))), (9, .c (.o (.int .i64))), (10, .c (.o (.pdat 79 (.prod (.int .i64) (.prod (.int .i64) (.prod (.int .i64) (.prod (.int .i64) (.prod (.int .i64) (.prod (.sl 90 (.int .u64)) (.sl 2 (.int .i64)))))))) 0))), (11, .c (.o (.own 1536))), (29, .c (.o (.int .i64))), (30, .c (.o (.int .i64))), (52, .c (.o (.dat 2 (.int .i64)))), (53, .c (.o (.int .i64))), (54, .c (.o (.int .i64)))], [⟨768, 2, .int .i64, 99⟩, ⟨832, 4, .bool, 99⟩, ⟨1536, 2, .int .i64, 99⟩], [⟨3, 28, [.o (.dat 79 (.prod (.int .i64) (.prod (.int .i64) (.prod (.int .i64) (.prod (.int .i64) (.prod (.int .i64) (.prod (.sl 90 (.int .u64)) (.sl 2 (.int .i64)))))))))], false⟩], [], []⟩
def impl_widths.l13.u (n : Nat) (v : impl_widths.l13.s.V) (K : X → St → Prop) : Prop := impl_widths.l13 n v.1.1 v.1.2.2.1 v.1.2.2.2.2.2.1 v.1.2.2.2.2.2.2.1 v.1.2.2.2.2.2.2.2.2.1 v.1.2.2.2.2.2.2.2.2.2.1 v.1.2.2.2.2.2.2.2.2.2.2.1 v.1.2.2.2.2.2.2.2.2.2.2.2.1 v.2.1.1 v.2.2.1.1 v.1.2.2.2.2.2.2.2.2.2.2.2.2.1 v.2.1.2.1 v.2.1.2.2.1 (fun y0 y1 y2 y3 y4 y5 y6 y7 y8 y9 => K (.exit 2) ⟨[(0, .c (.dat 112 (.prod .str (.int .i64)) y0)), (3, .c (.pbox 3 0)), (6, .c (.int .i64 y1)), (7, .c (.own 768)), (8, .c (.own 832)), (9, .c (.int .i64 y2)), (10, .c (.pdat 79 (.prod (.int .i64) (.prod (.int .i64) (.prod (.int .i64) (.prod (.int .i64) (.prod (.int .i64) (.prod (.sl 90 (.int .u64)) (.sl 2 (.int .i64)))))))) y3 0)), (11, .c (.own 1536)), (29, .c (.int .i64 y4)), (30, .c (.int .i64 y5))], [(768, ⟨2, .int .i64, y6, 99, none⟩), (832, ⟨4, .bool, y7, 99, none⟩), (1536, ⟨2, .int .i64, y8, 99, none⟩)], [(3, ⟨28, [.dat 79 (.prod (.int .i64) (.prod (.int .i64) (.prod (.int .i64) (.prod (.int .i64) (.prod (.int .i64) (.prod (.sl 90 (.int .u64)) (.sl 2 (.int .i64)))))))) y9], false⟩)], [], []⟩) (fun y0 y1 => K .ret ⟨[(4, .c (.own 128)), (5, .c (.bool y0))], [(128, ⟨2, .int .i64, y1, 99, none⟩)], [], [], []⟩)
abbrev impl_widths.l6.s : ST := ⟨[(0, .c (.o (.dat 112 (.prod .str (.int .i64))))), (3, .c (.o (.pbox 3 0))), (6, .c (.o (.int .i64))), (7, .c (.o (.own 768))), (8, .c (.o (.own 832))), (29, .c (.o (.int .i64))), (30, .c (.o (.int .i64)))], [⟨768, 2, .int .i64, 99⟩, ⟨832, 4, .bool, 99⟩], [⟨3, 28, [.o (.dat 79 (.prod (.int .i64) (.prod (.int .i64) (.prod (.int .i64) (.prod (.int .i64) (.prod (.int .i64) (.prod (.sl 90 (.int .u64)) (.sl 2 (.int .i64)))))))))], false⟩], [], []⟩
def impl_widths.l6.u (n : Nat) (v : impl_widths.l6.s.V) (K : X → St → Prop) : Prop := impl_widths.l6 n v.1.1 v.1.2.2.1 v.1.2.2.2.2.2.1 v.1.2.2.2.2.2.2.1 v.2.1.1 v.2.1.2.1 v.2.2.1.1 (fun y0 y1 y2 => K (.exit 0) ⟨[(6, .c (.int .i64 y0)), (7, .c (.own 768)), (8, .c (.own 832))], [(768, ⟨2, .int .i64, y1, 99, none⟩), (832, ⟨4, .bool, y2, 99, none⟩)], [], [], []⟩) (fun y0 y1 => K .ret ⟨[(4, .c (.own 128)), (5, .c (.bool y0))], [(128, ⟨2, .int .i64, y1, 99, none⟩)], [], [], []⟩)
theorem impl_widths.l13_ok : ∀ n v K, impl_widths.l13.u n v K → loopM C X0 n 93 13 (impl_widths.l13.s.fill v) K :=
 loop_tell hX (fn := Try.f93) (c := bodyOf Try.f93) (a := loopOf Try.f93 13) (li := liOf (C.fi 93).loops 13) (by kernel_rfl) (by kernel_rfl) (of_decide_eq_true rfl) (by kernel_rfl) (by kernel_rfl) (T := impl_widths.l13.s) (u := impl_widths.l13.u) (fun _ _ h => h) (call := D62) (lp := fun n => noL) (D62_ok hX) (fun n => noL_ok) (fun n v K => by kernel_rfl)
theorem impl_widths.l6_ok : ∀ n v K, impl_widths.l6.u n v K → loopM C X0 n 93 6 (impl_widths.l6.s.fill v) K :=
 loop_tell hX (fn := Try.f93) (c := bodyOf Try.f93) (a := loopOf Try.f93 6) (li := liOf (C.fi 93).loops 6) (by kernel_rfl) (by kernel_rfl) (of_decide_eq_true rfl) (by kernel_rfl) (by kernel_rfl) (T := impl_widths.l6.s) (u := impl_widths.l6.u) (fun _ _ h => h) (call := D62) (lp := fun n => orL 13 impl_widths.l13.s (impl_widths.l13.u n) noL) (D62_ok hX) (fun n => (orL_ok (impl_widths.l13_ok hX n) noL_ok)) (fun n v K => by kernel_rfl)
theorem impl_widths_ok : ∀ n v K, impl_widths.u n v K → callM C X0 n 93 (fillA impl_widths.a v) K :=
 call_tell hX (fn := Try.f93) (c := bodyOf Try.f93) (by kernel_rfl) (by kernel_rfl) (A := impl_widths.a) (u := impl_widths.u) (fun _ _ h => h) (call := D62) (lp := fun n => orL 6 impl_widths.l6.s (impl_widths.l6.u n) noL) (D62_ok hX) (fun n => (orL_ok (impl_widths.l6_ok hX n) noL_ok)) (fun n v K => by kernel_rfl)
def D63 (n : Nat) : CallF := orC 93 impl_widths.a (impl_widths.u n) (D62 n)
theorem D63_ok : ∀ n g a K, D63 n g a K → callM C X0 n g a K := fun n => orC_ok (impl_widths_ok hX n) (D62_ok hX n)
abbrev impl_widthOf.a : List TS := [.c (.o (.dat 112 (.prod .str (.int .i64)))), .a [.o (.dat 79 (.prod (.int .i64) (.prod (.int .i64) (.prod (.int .i64) (.prod (.int .i64) (.prod (.int .i64) (.prod (.sl 90 (.int .u64)) (.sl 2 (.int .i64)))))))))]]
def impl_widthOf.u (n : Nat) (v : VA impl_widthOf.a) (K : RES → Prop) : Prop := impl_widthOf.c n v.1 v.2.1.1 (fun r0 => K ⟨.c (.int .i64 r0), []⟩)
theorem impl_widthOf_ok : ∀ n v K, impl_widthOf.u n v K → callM C X0 n 49 (fillA impl_widthOf.a v) K :=
 call_tell hX (fn := Try.f49) (c := bodyOf Try.f49) (by kernel_rfl) (by kernel_rfl) (A := impl_widthOf.a) (u := impl_widthOf.u) (fun _ _ h => h) (call := D63) (lp := fun n => noL) (D63_ok hX) (fun n => noL_ok) (fun n v K => by kernel_rfl)
def D64 (n : Nat) : CallF := orC 49 impl_widthOf.a (impl_widthOf.u n) (D63 n)
theorem D64_ok : ∀ n g a K, D64 n g a K → callM C X0 n g a K := fun n => orC_ok (impl_widthOf_ok hX n) (D63_ok hX n)
abbrev impl_literalsOk.a : List TS := [.c (.o (.dat 112 (.prod .str (.int .i64)))), .c (.o (.dat 30 (.prod (.int .i64) (.prod .bool (.prod (.sl 79 (.prod (.int .i64) (.prod (.int .i64) (.prod (.int .i64) (.prod (.int .i64) (.prod (.int .i64) (.prod (.sl 90 (.int .u64)) (.sl 2 (.int .i64))))))))) (.sl 79 (.prod (.int .i64) (.prod (.int .i64) (.prod (.int .i64) (.prod (.int .i64) (.prod (.int .i64) (.prod (.sl 90 (.int .u64)) (.sl 2 (.int .i64))))))))))))))]
def impl_literalsOk.u (n : Nat) (v : VA impl_literalsOk.a) (K : RES → Prop) : Prop := impl_literalsOk.c n v.1 v.2.1 (fun r0 => K ⟨.c (.bool r0), []⟩)
abbrev impl_literalsOk.l5.s : ST := ⟨[(0, .c (.o (.dat 112 (.prod .str (.int .i64))))), (5, .c (.o (.int .i64))), (12, .c (.o (.dat 30 (.prod (.int .i64) (.prod .bool (.prod (.sl 79 (.prod (.int .i64) (.prod (.int .i64) (.prod (.int .i64) (.prod (.int .i64) (.prod (.int .i64) (.prod (.sl 90 (.int .u64)) (.sl 2 (.int .i64))))))))) (.sl 79 (.prod (.int .i64) (.prod (.int .i64) (.prod (.int .i64) (.prod (.int .i64) (.prod (.int .i64) (.prod (.sl 90 (.int .u64)) (.sl 2 (.int .i64))))))))))))))), (13, .c (.o (.int .i64))), (14, .c (.o (.int .i64)))], [], [], [], []⟩
def impl_literalsOk.l5.u (n : Nat) (v : impl_literalsOk.l5.s.V) (K : X → St → Prop) : Prop := impl_literalsOk.l5 n v.1.1 v.1.2.2.1 v.1.2.2.2.1 v.1.2.1 v.1.2.2.2.2.1 (K (.exit 0) ⟨[], [], [], [], []⟩) (fun y0 => K .ret ⟨[(4, .c (.bool y0))], [], [], [], []⟩)
theorem impl_literalsOk.l5_ok : ∀ n v K, impl_literalsOk.l5.u n v K → loopM C X0 n 39 5 (impl_literalsOk.l5.s.fill v) K :=
 loop_tell hX (fn := Try.f39) (c := bodyOf Try.f39) (a := loopOf Try.f39 5) (li := liOf (C.fi 39).loops 5) (by kernel_rfl) (by kernel_rfl) (of_decide_eq_true rfl) (by kernel_rfl) (by kernel_rfl) (T := impl_literalsOk.l5.s) (u := impl_literalsOk.l5.u) (fun _ _ h => h) (call := D64) (lp := fun n => noL) (D64_ok hX) (fun n => noL_ok) (fun n v K => by kernel_rfl)
theorem impl_literalsOk_ok : ∀ n v K, impl_literalsOk.u n v K → callM C X0 n 39 (fillA impl_literalsOk.a v) K :=
 call_tell hX (fn := Try.f39) (c := bodyOf Try.f39) (by kernel_rfl) (by kernel_rfl) (A := impl_literalsOk.a) (u := impl_literalsOk.u) (fun _ _ h => h) (call := D64) (lp := fun n => orL 5 impl_literalsOk.l5.s (impl_literalsOk.l5.u n) noL) (D64_ok hX) (fun n => (orL_ok (impl_literalsOk.l5_ok hX n) noL_ok)) (fun n v K => by kernel_rfl)
def D65 (n : Nat) : CallF := orC 39 impl_literalsOk.a (impl_literalsOk.u n) (D64 n)
theorem D65_ok : ∀ n g a K, D65 n g a K → callM C X0 n g a K := fun n => orC_ok (impl_literalsOk_ok hX n) (D64_ok hX n)
abbrev impl_zeroBits.a : List TS := [.c (.o (.int .i64))]
def impl_zeroBits.u (n : Nat) (v : VA impl_zeroBits.a) (K : RES → Prop) : Prop := impl_zeroBits.c n v.1 (fun r0 r1 => K ⟨.agg [.int .i64 r0, .row ⟨90, .int .u64, r1, 99, none⟩], []⟩)
theorem impl_zeroBits_ok : ∀ n v K, impl_zeroBits.u n v K → callM C X0 n 52 (fillA impl_zeroBits.a v) K :=
 call_tell hX (fn := Try.f52) (c := bodyOf Try.f52) (by kernel_rfl) (by kernel_rfl) (A := impl_zeroBits.a) (u := impl_zeroBits.u) (fun _ _ h => h) (call := D65) (lp := fun n => noL) (D65_ok hX) (fun n => noL_ok) (fun n v K => by kernel_rfl)
def D66 (n : Nat) : CallF := orC 52 impl_zeroBits.a (impl_zeroBits.u n) (D65 n)
theorem D66_ok : ∀ n g a K, D66 n g a K → callM C X0 n g a K := fun n => orC_ok (impl_zeroBits_ok hX n) (D65_ok hX n)
abbrev impl_Bits_put.a : List TS := [.a [.o (.int .i64), .o (.row 90 (.int .u64) 99)], .c (.o (.int .i64)), .a [.o (.int .i64), .o (.dat 90 (.int .u64))]]
def impl_Bits_put.u (n : Nat) (v : VA impl_Bits_put.a) (K : RES → Prop) : Prop := impl_Bits_put.c n v.1.1 v.1.2.1 v.2.1 v.2.2.1.1 v.2.2.1.2.1 (fun r0 r1 => K ⟨.tup [], [[.int .i64 r0, .row ⟨90, .int .u64, r1, 99, none⟩]]⟩)
abbrev impl_Bits_put.l2.s : ST := ⟨[(1, .c (.o (.int .i64))), (3, .c (.o (.pbox 3 0))), (10, .c (.o (.dat 90 (.int .u64)))), (11, .c (.o (.int .i64))), (12, .c (.o (.int .i64)))], [⟨1, 90, .int .u64, 99⟩], [⟨3, 44, [.o (.int .i64), .o (.own 1)], false⟩], [1], []⟩
def impl_Bits_put.l2.u (n : Nat) (v : impl_Bits_put.l2.s.V) (K : X → St → Prop) : Prop := impl_Bits_put.l2 n v.1.1 v.1.2.2.1 v.1.2.2.2.1 v.2.2.1.1 v.1.2.2.2.2.1 v.2.1.1 (fun y0 => K (.exit 0) ⟨[], [(1, ⟨90, .int .u64, y0, 99, none⟩)], [], [1], []⟩)
theorem impl_Bits_put.l2_ok : ∀ n v K, impl_Bits_put.l2.u n v K → loopM C X0 n 54 2 (impl_Bits_put.l2.s.fill v) K :=
 loop_tell hX (fn := Try.f54) (c := bodyOf Try.f54) (a := loopOf Try.f54 2) (li := liOf (C.fi 54).loops 2) (by kernel_rfl) (by kernel_rfl) (of_decide_eq_true rfl) (by kernel_rfl) (by kernel_rfl) (T := impl_Bits_put.l2.s) (u := impl_Bits_put.l2.u) (fun _ _ h => h) (call := D66) (lp := fun n => noL) (D66_ok hX) (fun n => noL_ok) (fun n v K => by kernel_rfl)
theorem impl_Bits_put_ok : ∀ n v K, impl_Bits_put.u n v K → callM C X0 n 54 (fillA impl_Bits_put.a v) K :=
 call_tell hX (fn := Try.f54) (c := bodyOf Try.f54) (by kernel_rfl) (by kernel_rfl) (A := impl_Bits_put.a) (u := impl_Bits_put.u) (fun _ _ h => h) (call := D66) (lp := fun n => orL 2 impl_Bits_put.l2.s (impl_Bits_put.l2.u n) noL) (D66_ok hX) (fun n => (orL_ok (impl_Bits_put.l2_ok hX n) noL_ok)) (fun n v K => by kernel_rfl)
def D67 (n : Nat) : CallF := orC 54 impl_Bits_put.a (impl_Bits_put.u n) (D66 n)
theorem D67_ok : ∀ n g a K, D67 n g a K → callM C X0 n g a K := fun n => orC_ok (impl_Bits_put_ok hX n) (D66_ok hX n)
abbrev impl_Bits_over.a : List TS := [.a [.o (.int .i64), .o (.dat 90 (.int .u64))], .a [.o (.int .i64), .o (.dat 90 (.int .u64))]]
def impl_Bits_over.u (n : Nat) (v : VA impl_Bits_over.a) (K : RES → Prop) : Prop := impl_Bits_over.c n v.1.1 v.1.2.1 v.2.1.1 v.2.1.2.1 (fun r0 r1 => K ⟨.agg [.int .i64 r0, .row ⟨90, .int .u64, r1, 99, none⟩], []⟩)
theorem impl_Bits_over_ok : ∀ n v K, impl_Bits_over.u n v K → callM C X0 n 130 (fillA impl_Bits_over.a v) K :=
 call_tell hX (fn := Try.f130) (c := bodyOf Try.f130) (by kernel_rfl) (by kernel_rfl) (A := impl_Bits_over.a) (u := impl_Bits_over.u) (fun _ _ h => h) (call := D67) (lp := fun n => noL) (D67_ok hX) (fun n => noL_ok) (fun n v K => by kernel_rfl)
def D68 (n : Nat) : CallF := orC 130 impl_Bits_over.a (impl_Bits_over.u n) (D67 n)
theorem D68_ok : ∀ n g a K, D68 n g a K → callM C X0 n g a K := fun n => orC_ok (impl_Bits_over_ok hX n) (D67_ok hX n)
abbrev impl_Bits_cut.a : List TS := [.a [.o (.int .i64), .o (.dat 90 (.int .u64))], .c (.o (.int .i64)), .c (.o (.int .i64))]
def impl_Bits_cut.u (n : Nat) (v : VA impl_Bits_cut.a) (K : RES → Prop) : Prop := impl_Bits_cut.c n v.1.1 v.1.2.1 v.2.1 v.2.2.1 (fun r0 r1 => K ⟨.agg [.int .i64 r0, .row ⟨90, .int .u64, r1, 99, none⟩], []⟩)
abbrev impl_Bits_cut.l3.s : ST := ⟨[(1, .c (.o (.int .i64))), (2, .c (.o (.int .i64))), (3, .c (.o (.pbox 3 0))), (6, .c (.o (.pbox 6 0))), (7, .c (.o (.pbox 7 0))), (15, .c (.o (.int .i64))), (16, .c (.o (.int .i64)))], [⟨385, 90, .int .u64, 99⟩, ⟨1000193, 90, .int .u64, 99⟩], [⟨3, 44, [.o (.int .i64), .o (.dat 90 (.int .u64))], false⟩, ⟨6, 44, [.o (.int .i64), .o (.own 1000193)], false⟩, ⟨7, 44, [.o (.int .i64), .o (.own 385)], false⟩], [], []⟩
def impl_Bits_cut.l3.u (n : Nat) (v : impl_Bits_cut.l3.s.V) (K : X → St → Prop) : Prop := impl_Bits_cut.l3 n v.1.1 v.1.2.1 v.1.2.2.2.2.2.1 v.2.1.2.1 v.2.2.1.1 v.2.2.1.2.1 v.2.2.2.1.1 v.2.2.2.2.1.1 v.1.2.2.2.2.2.2.1 v.2.1.1 (fun y0 y1 y2 y3 y4 => K (.exit 0) ⟨[(2, .c (.int .i64 y0)), (6, .c (.pbox 6 0)), (7, .c (.pbox 7 0))], [(385, ⟨90, .int .u64, y1, 99, none⟩), (1000193, ⟨90, .int .u64, y2, 99, none⟩)], [(6, ⟨44, [.int .i64 y3, .own 1000193], false⟩), (7, ⟨44, [.int .i64 y4, .own 385], false⟩)], [], []⟩)
theorem impl_Bits_cut.l3_ok : ∀ n v K, impl_Bits_cut.l3.u n v K → loopM C X0 n 55 3 (impl_Bits_cut.l3.s.fill v) K :=
 loop_tell hX (fn := Try.f55) (c := bodyOf Try.f55) (a := loopOf Try.f55 3) (li := liOf (C.fi 55).loops 3) (by kernel_rfl) (by kernel_rfl) (of_decide_eq_true rfl) (by kernel_rfl) (by kernel_rfl) (T := impl_Bits_cut.l3.s) (u := impl_Bits_cut.l3.u) (fun _ _ h => h) (call := D68) (lp := fun n => noL) (D68_ok hX) (fun n => noL_ok) (fun n v K => by kernel_rfl)
theorem impl_Bits_cut_ok : ∀ n v K, impl_Bits_cut.u n v K → callM C X0 n 55 (fillA impl_Bits_cut.a v) K :=
 call_tell hX (fn := Try.f55) (c := bodyOf Try.f55) (by kernel_rfl) (by kernel_rfl) (A := impl_Bits_cut.a) (u := impl_Bits_cut.u) (fun _ _ h => h) (call := D68) (lp := fun n => orL 3 impl_Bits_cut.l3.s (impl_Bits_cut.l3.u n) noL) (D68_ok hX) (fun n => (orL_ok (impl_Bits_cut.l3_ok hX n) noL_ok)) (fun n v K => by kernel_rfl)
def D69 (n : Nat) : CallF := orC 55 impl_Bits_cut.a (impl_Bits_cut.u n) (D68 n)
theorem D69_ok : ∀ n g a K, D69 n g a K → callM C X0 n g a K := fun n => orC_ok (impl_Bits_cut_ok hX n) (D68_ok hX n)
abbrev slices_Clone_uint64.a : List TS := [.c (.o (.dat 90 (.int .u64)))]
def slices_Clone_uint64.u (n : Nat) (v : VA slices_Clone_uint64.a) (K : RES → Prop) : Prop := slices_Clone_uint64.c n v.1 (fun r0 => K ⟨.c (.row ⟨90, .int .u64, r0, 99, none⟩), []⟩)
theorem slices_Clone_uint64_ok : ∀ n v K, slices_Clone_uint64.u n v K → callM C X0 n 134 (fillA slices_Clone_uint64.a v) K :=
 call_tell hX (fn := Try.f134) (c := bodyOf Try.f134) (by kernel_rfl) (by kernel_rfl) (A := slices_Clone_uint64.a) (u := slices_Clone_uint64.u) (fun _ _ h => h) (call := D69) (lp := fun n => noL) (D69_ok hX) (fun n => noL_ok) (fun n v K => by kernel_rfl)
def D70 (n : Nat) : CallF := orC 134 slices_Clone_uint64.a (slices_Clone_uint64.u n) (D69 n)
theorem D70_ok : ∀ n g a K, D70 n g a K → callM C X0 n g a K := fun n => orC_ok (slices_Clone_uint64_ok hX n) (D69_ok hX n)
abbrev impl_cloneBits.a : List TS := [.a [.o (.int .i64), .o (.dat 90 (.int .u64))]]
def impl_cloneBits.u (n : Nat) (v : VA impl_cloneBits.a) (K : RES → Prop) : Prop := impl_cloneBits.c n v.1.1 v.1.2.1 (fun r0 r1 => K ⟨.agg [.int .i64 r0, .row ⟨90, .int .u64, r1, 99, none⟩], []⟩)
theorem impl_cloneBits_ok : ∀ n v K, impl_cloneBits.u n v K → callM C X0 n 95 (fillA impl_cloneBits.a v) K :=
 call_tell hX (fn := Try.f95) (c := bodyOf Try.f95) (by kernel_rfl) (by kernel_rfl) (A := impl_cloneBits.a) (u := impl_cloneBits.u) (fun _ _ h => h) (call := D70) (lp := fun n => noL) (D70_ok hX) (fun n => noL_ok) (fun n v K => by kernel_rfl)
def D71 (n : Nat) : CallF := orC 95 impl_cloneBits.a (impl_cloneBits.u n) (D70 n)
theorem D71_ok : ∀ n g a K, D71 n g a K → callM C X0 n g a K := fun n => orC_ok (impl_cloneBits_ok hX n) (D70_ok hX n)
abbrev impl_Bits_turn.a : List TS := [.a [.o (.int .i64), .o (.dat 90 (.int .u64))], .c (.o (.int .i64))]
def impl_Bits_turn.u (n : Nat) (v : VA impl_Bits_turn.a) (K : RES → Prop) : Prop := impl_Bits_turn.c n v.1.1 v.1.2.1 v.2.1 (fun r0 r1 => K ⟨.agg [.int .i64 r0, .row ⟨90, .int .u64, r1, 99, none⟩], []⟩)
theorem impl_Bits_turn_ok : ∀ n v K, impl_Bits_turn.u n v K → callM C X0 n 131 (fillA impl_Bits_turn.a v) K :=
 call_tell hX (fn := Try.f131) (c := bodyOf Try.f131) (by kernel_rfl) (by kernel_rfl) (A := impl_Bits_turn.a) (u := impl_Bits_turn.u) (fun _ _ h => h) (call := D71) (lp := fun n => noL) (D71_ok hX) (fun n => noL_ok) (fun n v K => by kernel_rfl)
def D72 (n : Nat) : CallF := orC 131 impl_Bits_turn.a (impl_Bits_turn.u n) (D71 n)
theorem D72_ok : ∀ n g a K, D72 n g a K → callM C X0 n g a K := fun n => orC_ok (impl_Bits_turn_ok hX n) (D71_ok hX n)
abbrev impl_Bits_repeat.a : List TS := [.a [.o (.int .i64), .o (.dat 90 (.int .u64))], .c (.o (.int .i64))]
def impl_Bits_repeat.u (n : Nat) (v : VA impl_Bits_repeat.a) (K : RES → Prop) : Prop := impl_Bits_repeat.c n v.1.1 v.1.2.1 v.2.1 (fun r0 r1 => K ⟨.agg [.int .i64 r0, .row ⟨90, .int .u64, r1, 99, none⟩], []⟩)
abbrev impl_Bits_repeat.l3.s : ST := ⟨[(2, .c (.o (.pbox 2 0))), (4, .c (.o (.pbox 4 0))), (5, .c (.o (.pbox 5 0))), (12, .c (.o (.int .i64))), (13, .c (.o (.int .i64)))], [⟨353, 90, .int .u64, 99⟩, ⟨1000129, 90, .int .u64, 99⟩], [⟨2, 44, [.o (.int .i64), .o (.dat 90 (.int .u64))], false⟩, ⟨4, 44, [.o (.int .i64), .o (.own 1000129)], false⟩, ⟨5, 44, [.o (.int .i64), .o (.own 353)], false⟩], [], []⟩
def impl_Bits_repeat.l3.u (n : Nat) (v : impl_Bits_repeat.l3.s.V) (K : X → St → Prop) : Prop := impl_Bits_repeat.l3 n v.1.2.2.2.1 v.2.1.2.1 v.2.2.1.1 v.2.2.1.2.1 v.2.2.2.1.1 v.2.2.2.2.1.1 v.1.2.2.2.2.1 v.2.1.1 (fun y0 y1 y2 y3 => K (.exit 0) ⟨[(4, .c (.pbox 4 0)), (5, .c (.pbox 5 0))], [(353, ⟨90, .int .u64, y0, 99, none⟩), (1000129, ⟨90, .int .u64, y1, 99, none⟩)], [(4, ⟨44, [.int .i64 y2, .own 1000129], false⟩), (5, ⟨44, [.int .i64 y3, .own 353], false⟩)], [], []⟩)
theorem impl_Bits_repeat.l3_ok : ∀ n v K, impl_Bits_repeat.l3.u n v K → loopM C X0 n 132 3 (impl_Bits_repeat.l3.s.fill v) K :=
 loop_tell hX (fn := Try.f132) (c := bodyOf Try.f132) (a := loopOf Try.f132 3) (li := liOf (C.fi 132).loops 3) (by kernel_rfl) (by kernel_rfl) (of_decide_eq_true rfl) (by kernel_rfl) (by kernel_rfl) (T := impl_Bits_repeat.l3.s) (u := impl_Bits_repeat.l3.u) (fun _ _ h => h) (call := D72) (lp := fun n => noL) (D72_ok hX) (fun n => noL_ok) (fun n v K => by kernel_rfl)
theorem impl_Bits_repeat_ok : ∀ n v K, impl_Bits_repeat.u n v K → callM C X0 n 132 (fillA impl_Bits_repeat.a v) K :=
 call_tell hX (fn := Try.f132) (c := bodyOf Try.f132) (by kernel_rfl) (by kernel_rfl) (A := impl_Bits_repeat.a) (u := impl_Bits_repeat.u) (fun _ _ h => h) (call := D72) (lp := fun n => orL 3 impl_Bits_repeat.l3.s (impl_Bits_repeat.l3.u n) noL) (D72_ok hX) (fun n => (orL_ok (impl_Bits_repeat.l3_ok hX n) noL_ok)) (fun n v K => by kernel_rfl)
def D73 (n : Nat) : CallF := orC 132 impl_Bits_repeat.a (impl_Bits_repeat.u n) (D72 n)
theorem D73_ok : ∀ n g a K, D73 n g a K → callM C X0 n g a K := fun n => orC_ok (impl_Bits_repeat_ok hX n) (D72_ok hX n)
abbrev impl_Bits_bit.a : List TS := [.a [.o (.int .i64), .o (.dat 90 (.int .u64))], .c (.o (.int .i64))]
def impl_Bits_bit.u (n : Nat) (v : VA impl_Bits_bit.a) (K : RES → Prop) : Prop := impl_Bits_bit.c n v.1.1 v.1.2.1 v.2.1 (fun r0 => K ⟨.c (.int .u64 r0), []⟩)
theorem impl_Bits_bit_ok : ∀ n v K, impl_Bits_bit.u n v K → callM C X0 n 143 (fillA impl_Bits_bit.a v) K :=
 call_tell hX (fn := Try.f143) (c := bodyOf Try.f143) (by kernel_rfl) (by kernel_rfl) (A := impl_Bits_bit.a) (u := impl_Bits_bit.u) (fun _ _ h => h) (call := D73) (lp := fun n => noL) (D73_ok hX) (fun n => noL_ok) (fun n v K => by kernel_rfl)
def D74 (n : Nat) : CallF := orC 143 impl_Bits_bit.a (impl_Bits_bit.u n) (D73 n)
theorem D74_ok : ∀ n g a K, D74 n g a K → callM C X0 n g a K := fun n => orC_ok (impl_Bits_bit_ok hX n) (D73_ok hX n)
abbrev impl_Bits_set.a : List TS := [.a [.o (.int .i64), .o (.row 90 (.int .u64) 99)], .c (.o (.int .i64))]
def impl_Bits_set.u (n : Nat) (v : VA impl_Bits_set.a) (K : RES → Prop) : Prop := impl_Bits_set.c n v.1.1 v.1.2.1 v.2.1 (fun r0 r1 => K ⟨.tup [], [[.int .i64 r0, .row ⟨90, .int .u64, r1, 99, none⟩]]⟩)
theorem impl_Bits_set_ok : ∀ n v K, impl_Bits_set.u n v K → callM C X0 n 144 (fillA impl_Bits_set.a v) K :=
 call_tell hX (fn := Try.f144) (c := bodyOf Try.f144) (by kernel_rfl) (by kernel_rfl) (A := impl_Bits_set.a) (u := impl_Bits_set.u) (fun _ _ h => h) (call := D74) (lp := fun n => noL) (D74_ok hX) (fun n => noL_ok) (fun n v K => by kernel_rfl)
def D75 (n : Nat) : CallF := orC 144 impl_Bits_set.a (impl_Bits_set.u n) (D74 n)
theorem D75_ok : ∀ n g a K, D75 n g a K → callM C X0 n g a K := fun n => orC_ok (impl_Bits_set_ok hX n) (D74_ok hX n)
abbrev impl_Bits_widen.a : List TS := [.a [.o (.int .i64), .o (.dat 90 (.int .u64))], .c (.o (.int .i64)), .c (.o .bool)]
def impl_Bits_widen.u (n : Nat) (v : VA impl_Bits_widen.a) (K : RES → Prop) : Prop := impl_Bits_widen.c n v.1.1 v.1.2.1 v.2.1 v.2.2.1 (fun r0 r1 => K ⟨.agg [.int .i64 r0, .row ⟨90, .int .u64, r1, 99, none⟩], []⟩)
abbrev impl_Bits_widen.l5.s : ST := ⟨[(3, .c (.o (.pbox 3 0))), (6, .c (.o (.pbox 6 0))), (7, .c (.o (.pbox 7 0))), (26, .c (.o (.int .i64))), (27, .c (.o (.int .i64)))], [⟨417, 90, .int .u64, 99⟩, ⟨1000193, 90, .int .u64, 99⟩], [⟨3, 44, [.o (.int .i64), .o (.dat 90 (.int .u64))], false⟩, ⟨6, 44, [.o (.int .i64), .o (.own 1000193)], false⟩, ⟨7, 44, [.o (.int .i64), .o (.own 417)], false⟩], [], []⟩
def impl_Bits_widen.l5.u (n : Nat) (v : impl_Bits_widen.l5.s.V) (K : X → St → Prop) : Prop := impl_Bits_widen.l5 n v.1.2.2.2.1 v.2.1.2.1 v.2.2.1.1 v.2.2.1.2.1 v.2.2.2.1.1 v.2.2.2.2.1.1 v.1.2.2.2.2.1 v.2.1.1 (fun y0 y1 y2 y3 => K (.exit 0) ⟨[(6, .c (.pbox 6 0)), (7, .c (.pbox 7 0))], [(417, ⟨90, .int .u64, y0, 99, none⟩), (1000193, ⟨90, .int .u64, y1, 99, none⟩)], [(6, ⟨44, [.int .i64 y2, .own 1000193], false⟩), (7, ⟨44, [.int .i64 y3, .own 417], false⟩)], [], []⟩)
theorem impl_Bits_widen.l5_ok : ∀ n v K, impl_Bits_widen.l5.u n v K → loopM C X0 n 133 5 (impl_Bits_widen.l5.s.fill v) K :=
 loop_tell hX (fn := Try.f133) (c := bodyOf Try.f133) (a := loopOf Try.f133 5) (li := liOf (C.fi 133).loops 5) (by kernel_rfl) (by kernel_rfl) (of_decide_eq_true rfl) (by kernel_rfl) (by kernel_rfl) (T := impl_Bits_widen.l5.s) (u := impl_Bits_widen.l5.u) (fun _ _ h => h) (call := D75) (lp := fun n => noL) (D75_ok hX) (fun n => noL_ok) (fun n v K => by kernel_rfl)
theorem impl_Bits_widen_ok : ∀ n v K, impl_Bits_widen.u n v K → callM C X0 n 133 (fillA impl_Bits_widen.a v) K :=
 call_tell hX (fn := Try.f133) (c := bodyOf Try.f133) (by kernel_rfl) (by kernel_rfl) (A := impl_Bits_widen.a) (u := impl_Bits_widen.u) (fun _ _ h => h) (call := D75) (lp := fun n => orL 5 impl_Bits_widen.l5.s (impl_Bits_widen.l5.u n) noL) (D75_ok hX) (fun n => (orL_ok (impl_Bits_widen.l5_ok hX n) noL_ok)) (fun n v K => by kernel_rfl)
def D76 (n : Nat) : CallF := orC 133 impl_Bits_widen.a (impl_Bits_widen.u n) (D75 n)
theorem D76_ok : ∀ n g a K, D76 n g a K → callM C X0 n g a K := fun n => orC_ok (impl_Bits_widen_ok hX n) (D75_ok hX n)
abbrev impl_TNode_apply.a : List TS := [.c (.o (.pdat 79 (.prod (.int .i64) (.prod (.int .i64) (.prod (.int .i64) (.prod (.int .i64) (.prod (.int .i64) (.prod (.sl 90 (.int .u64)) (.sl 2 (.int .i64)))))))) 0)), .c (.o (.dat 44 (.prod (.int .i64) (.sl 90 (.int .u64))))), .c (.o (.dat 44 (.prod (.int .i64) (.sl 90 (.int .u64)))))]
def impl_TNode_apply.u (n : Nat) (v : VA impl_TNode_apply.a) (K : RES → Prop) : Prop := impl_TNode_apply.c n v.1 v.2.1 v.2.2.1 (fun r0 r1 => K ⟨.agg [.int .i64 r0, .dat 90 (.int .u64) r1], []⟩)
abbrev impl_TNode_apply.l9.s : ST := ⟨[(6, .c (.o (.pbox 6 0))), (7, .c (.o (.pbox 7 0))), (36, .c (.o (.dat 44 (.prod (.int .i64) (.sl 90 (.int .u64)))))), (37, .c (.o (.int .i64))), (38, .c (.o (.int .i64)))], [⟨1000193, 90, .int .u64, 99⟩], [⟨6, 44, [.o (.int .i64), .o (.own 1000193)], false⟩, ⟨7, 44, [.o (.int .i64), .o (.dat 90 (.int .u64))], false⟩], [], []⟩
def impl_TNode_apply.l9.u (n : Nat) (v : impl_TNode_apply.l9.s.V) (K : X → St → Prop) : Prop := impl_TNode_apply.l9 n v.1.2.2.1 v.1.2.2.2.1 v.2.1.1 v.2.2.1.1 v.1.2.2.2.2.1 v.2.2.2.1.1 v.2.2.2.1.2.1 (fun y0 y1 y2 y3 => K (.exit 1) ⟨[(6, .c (.pbox 6 0)), (7, .c (.pbox 7 0))], [(1000193, ⟨90, .int .u64, y0, 99, none⟩)], [(6, ⟨44, [.int .i64 y1, .own 1000193], false⟩), (7, ⟨44, [.int .i64 y2, .dat 90 (.int .u64) y3], false⟩)], [], []⟩)
theorem impl_TNode_apply.l9_ok : ∀ n v K, impl_TNode_apply.l9.u n v K → loopM C X0 n 94 9 (impl_TNode_apply.l9.s.fill v) K :=
 loop_tell hX (fn := Try.f94) (c := bodyOf Try.f94) (a := loopOf Try.f94 9) (li := liOf (C.fi 94).loops 9) (by kernel_rfl) (by kernel_rfl) (of_decide_eq_true rfl) (by kernel_rfl) (by kernel_rfl) (T := impl_TNode_apply.l9.s) (u := impl_TNode_apply.l9.u) (fun _ _ h => h) (call := D76) (lp := fun n => noL) (D76_ok hX) (fun n => noL_ok) (fun n v K => by kernel_rfl)
theorem impl_TNode_apply_ok : ∀ n v K, impl_TNode_apply.u n v K → callM C X0 n 94 (fillA impl_TNode_apply.a v) K :=
 call_tell hX (fn := Try.f94) (c := bodyOf Try.f94) (by kernel_rfl) (by kernel_rfl) (A := impl_TNode_apply.a) (u := impl_TNode_apply.u) (fun _ _ h => h) (call := D76) (lp := fun n => orL 9 impl_TNode_apply.l9.s (impl_TNode_apply.l9.u n) noL) (D76_ok hX) (fun n => (orL_ok (impl_TNode_apply.l9_ok hX n) noL_ok)) (fun n v K => by kernel_rfl)
def D77 (n : Nat) : CallF := orC 94 impl_TNode_apply.a (impl_TNode_apply.u n) (D76 n)
theorem D77_ok : ∀ n g a K, D77 n g a K → callM C X0 n g a K := fun n => orC_ok (impl_TNode_apply_ok hX n) (D76_ok hX n)
abbrev impl_eval.a : List TS := [.c (.o (.dat 44 (.prod (.int .i64) (.sl 90 (.int .u64))))), .a [.o (.dat 79 (.prod (.int .i64) (.prod (.int .i64) (.prod (.int .i64) (.prod (.int .i64) (.prod (.int .i64) (.prod (.sl 90 (.int .u64)) (.sl 2 (.int .i64)))))))))]]
def impl_eval.u (n : Nat) (v : VA impl_eval.a) (K : RES → Prop) : Prop := impl_eval.c n v.1 v.2.1.1 (fun r0 r1 => K ⟨.agg [.int .i64 r0, .row ⟨90, .int .u64, r1, 99, none⟩], []⟩)
abbrev impl_eval.l8.s : ST := ⟨[(0, .c (.o (.dat 44 (.prod (.int .i64) (.sl 90 (.int .u64)))))), (3, .c (.o (.pbox 3 0))), (4, .c (.o (.pbox 4 0))), (5, .c (.o (.own 160))), (6, .c (.o (.int .i64))), (7, .c (.o (.pdat 79 (.prod (.int .i64) (.prod (.int .i64) (.prod (.int .i64) (.prod (.int .i64) (.prod (.int .i64) (.prod (.sl 90 (.int .u64)) (.sl 2 (.int .i64)))))))) 0))), (8, .c (.o (.own 256))), (17, .c (.o (.int .i64))), (18, .c (.o (.int .i64))), (34, .c (.o (.dat 2 (.int .i64)))), (35, .c (.o (.int .i64))), (36, .c (.o (.int .i64)))], [⟨160, 44, .prod (.int .i64) (.sl 90 (.int .u64)), 1⟩, ⟨256, 44, .prod (.int .i64) (.sl 90 (.int .u64)), 1⟩, ⟨1000129, 90, .int .u64, 99⟩], [⟨3, 28, [.o (.dat 79 (.prod (.int .i64) (.prod (.int .i64) (.prod (.int .i64) (.prod (.int .i64) (.prod (.int .i64) (.prod (.sl 90 (.int .u64)) (.sl 2 (.int .i64)))))))))], false⟩, ⟨4, 44, [.o (.int .i64), .o (.own 1000129)], false⟩], [], []⟩
def impl_eval.l8.u (n : Nat) (v : impl_eval.l8.s.V) (K : X → St → Prop) : Prop := impl_eval.l8 n v.1.1 v.1.2.2.2.2.1 v.1.2.2.2.2.2.1 v.1.2.2.2.2.2.2.2.1 v.1.2.2.2.2.2.2.2.2.1 v.1.2.2.2.2.2.2.2.2.2.1 v.1.2.2.2.2.2.2.2.2.2.2.1 v.2.1.1 v.2.1.2.2.1 v.2.2.1.1 v.2.2.2.1.1 v.1.2.2.2.2.2.2.2.2.2.2.2.1 v.2.1.2.1 (fun y0 y1 y2 y3 y4 y5 y6 y7 y8 y9 => K (.exit 2) ⟨[(0, .c (.dat 44 (.prod (.int .i64) (.sl 90 (.int .u64))) y0)), (3, .c (.pbox 3 0)), (4, .c (.pbox 4 0)), (5, .c (.own 160)), (6, .c (.int .i64 y1)), (7, .c (.pdat 79 (.prod (.int .i64) (.prod (.int .i64) (.prod (.int .i64) (.prod (.int .i64) (.prod (.int .i64) (.prod (.sl 90 (.int .u64)) (.sl 2 (.int .i64)))))))) y2 0)), (8, .c (.own 256)), (17, .c (.int .i64 y3)), (18, .c (.int .i64 y4))], [(160, ⟨44, .prod (.int .i64) (.sl 90 (.int .u64)), y5, 1, none⟩), (256, ⟨44, .prod (.int .i64) (.sl 90 (.int .u64)), y6, 1, none⟩), (1000129, ⟨90, .int .u64, y7, 99, none⟩)], [(3, ⟨28, [.dat 79 (.prod (.int .i64) (.prod (.int .i64) (.prod (.int .i64) (.prod (.int .i64) (.prod (.int .i64) (.prod (.sl 90 (.int .u64)) (.sl 2 (.int .i64)))))))) y8], false⟩), (4, ⟨44, [.int .i64 y9, .own 1000129], false⟩)], [], []⟩)
abbrev impl_eval.l3.s : ST := ⟨[(0, .c (.o (.dat 44 (.prod (.int .i64) (.sl 90 (.int .u64)))))), (3, .c (.o (.pbox 3 0))), (4, .c (.o (.pbox 4 0))), (5, .c (.o (.own 160))), (17, .c (.o (.int .i64))), (18, .c (.o (.int .i64)))], [⟨160, 44, .prod (.int .i64) (.sl 90 (.int .u64)), 1⟩, ⟨1000129, 90, .int .u64, 99⟩], [⟨3, 28, [.o (.dat 79 (.prod (.int .i64) (.prod (.int .i64) (.prod (.int .i64) (.prod (.int .i64) (.prod (.int .i64) (.prod (.sl 90 (.int .u64)) (.sl 2 (.int .i64)))))))))], false⟩, ⟨4, 44, [.o (.int .i64), .o (.own 1000129)], false⟩], [], []⟩
def impl_eval.l3.u (n : Nat) (v : impl_eval.l3.s.V) (K : X → St → Prop) : Prop := impl_eval.l3 n v.1.1 v.1.2.2.2.2.1 v.1.2.2.2.2.2.1 v.2.1.1 v.2.1.2.1 v.2.2.1.1 v.2.2.2.1.1 (fun y0 y1 y2 => K (.exit 0) ⟨[(4, .c (.pbox 4 0)), (5, .c (.own 160))], [(160, ⟨44, .prod (.int .i64) (.sl 90 (.int .u64)), y0, 1, none⟩), (1000129, ⟨90, .int .u64, y1, 99, none⟩)], [(4, ⟨44, [.int .i64 y2, .own 1000129], false⟩)], [], []⟩)
theorem impl_eval.l8_ok : ∀ n v K, impl_eval.l8.u n v K → loopM C X0 n 50 8 (impl_eval.l8.s.fill v) K :=
 loop_tell hX (fn := Try.f50) (c := bodyOf Try.f50) (a := loopOf Try.f50 8) (li := liOf (C.fi 50).loops 8) (by kernel_rfl) (by kernel_rfl) (of_decide_eq_true rfl) (by kernel_rfl) (by kernel_rfl) (T := impl_eval.l8.s) (u := impl_eval.l8.u) (fun _ _ h => h) (call := D77) (lp := fun n => noL) (D77_ok hX) (fun n => noL_ok) (fun n v K => by kernel_rfl)
theorem impl_eval.l3_ok : ∀ n v K, impl_eval.l3.u n v K → loopM C X0 n 50 3 (impl_eval.l3.s.fill v) K :=
 loop_tell hX (fn := Try.f50) (c := bodyOf Try.f50) (a := loopOf Try.f50 3) (li := liOf (C.fi 50).loops 3) (by kernel_rfl) (by kernel_rfl) (of_decide_eq_true rfl) (by kernel_rfl) (by kernel_rfl) (T := impl_eval.l3.s) (u := impl_eval.l3.u) (fun _ _ h => h) (call := D77) (lp := fun n => orL 8 impl_eval.l8.s (impl_eval.l8.u n) noL) (D77_ok hX) (fun n => (orL_ok (impl_eval.l8_ok hX n) noL_ok)) (fun n v K => by kernel_rfl)
theorem impl_eval_ok : ∀ n v K, impl_eval.u n v K → callM C X0 n 50 (fillA impl_eval.a v) K :=
 call_tell hX (fn := Try.f50) (c := bodyOf Try.f50) (by kernel_rfl) (by kernel_rfl) (A := impl_eval.a) (u := impl_eval.u) (fun _ _ h => h) (call := D77) (lp := fun n => orL 3 impl_eval.l3.s (impl_eval.l3.u n) noL) (D77_ok hX) (fun n => (orL_ok (impl_eval.l3_ok hX n) noL_ok)) (fun n v K => by kernel_rfl)
def D78 (n : Nat) : CallF := orC 50 impl_eval.a (impl_eval.u n) (D77 n)
theorem D78_ok : ∀ n g a K, D78 n g a K → callM C X0 n g a K := fun n => orC_ok (impl_eval_ok hX n) (D77_ok hX n)
abbrev slices_Equal_uint64.a : List TS := [.c (.o (.dat 90 (.int .u64))), .c (.o (.dat 90 (.int .u64)))]
def slices_Equal_uint64.u (n : Nat) (v : VA slices_Equal_uint64.a) (K : RES → Prop) : Prop := slices_Equal_uint64.c n v.1 v.2.1 (fun r0 => K ⟨.c (.bool r0), []⟩)
abbrev slices_Equal_uint64.l4.s : ST := ⟨[(0, .c (.o (.dat 90 (.int .u64)))), (1, .c (.o (.dat 90 (.int .u64)))), (12, .c (.o (.int .i64))), (13, .c (.o (.int .i64)))], [], [], [], []⟩
def slices_Equal_uint64.l4.u (n : Nat) (v : slices_Equal_uint64.l4.s.V) (K : X → St → Prop) : Prop := slices_Equal_uint64.l4 n v.1.1 v.1.2.1 v.1.2.2.1 v.1.2.2.2.1 (K (.exit 0) ⟨[], [], [], [], []⟩) (fun y0 => K .ret ⟨[(4, .c (.bool y0))], [], [], [], []⟩)
theorem slices_Equal_uint64.l4_ok : ∀ n v K, slices_Equal_uint64.l4.u n v K → loopM C X0 n 118 4 (slices_Equal_uint64.l4.s.fill v) K :=
 loop_tell hX (fn := Try.f118) (c := bodyOf Try.f118) (a := loopOf Try.f118 4) (li := liOf (C.fi 118).loops 4) (by kernel_rfl) (by kernel_rfl) (of_decide_eq_true rfl) (by kernel_rfl) (by kernel_rfl) (T := slices_Equal_uint64.l4.s) (u := slices_Equal_uint64.l4.u) (fun _ _ h => h) (call := D78) (lp := fun n => noL) (D78_ok hX) (fun n => noL_ok) (fun n v K => by kernel_rfl)
theorem slices_Equal_uint64_ok : ∀ n v K, slices_Equal_uint64.u n v K → callM C X0 n 118 (fillA slices_Equal_uint64.a v) K :=
 call_tell hX (fn := Try.f118) (c := bodyOf Try.f118) (by kernel_rfl) (by kernel_rfl) (A := slices_Equal_uint64.a) (u := slices_Equal_uint64.u) (fun _ _ h => h) (call := D78) (lp := fun n => orL 4 slices_Equal_uint64.l4.s (slices_Equal_uint64.l4.u n) noL) (D78_ok hX) (fun n => (orL_ok (slices_Equal_uint64.l4_ok hX n) noL_ok)) (fun n v K => by kernel_rfl)
def D79 (n : Nat) : CallF := orC 118 slices_Equal_uint64.a (slices_Equal_uint64.u n) (D78 n)
theorem D79_ok : ∀ n g a K, D79 n g a K → callM C X0 n g a K := fun n => orC_ok (slices_Equal_uint64_ok hX n) (D78_ok hX n)
abbrev impl_Bits_same.a : List TS := [.a [.o (.int .i64), .o (.dat 90 (.int .u64))], .a [.o (.int .i64), .o (.dat 90 (.int .u64))]]
def impl_Bits_same.u (n : Nat) (v : VA impl_Bits_same.a) (K : RES → Prop) : Prop := impl_Bits_same.c n v.1.1 v.1.2.1 v.2.1.1 v.2.1.2.1 (fun r0 => K ⟨.c (.bool r0), []⟩)
theorem impl_Bits_same_ok : ∀ n v K, impl_Bits_same.u n v K → callM C X0 n 88 (fillA impl_Bits_same.a v) K :=
 call_tell hX (fn := Try.f88) (c := bodyOf Try.f88) (by kernel_rfl) (by kernel_rfl) (A := impl_Bits_same.a) (u := impl_Bits_same.u) (fun _ _ h => h) (call := D79) (lp := fun n => noL) (D79_ok hX) (fun n => noL_ok) (fun n v K => by kernel_rfl)
def D80 (n : Nat) : CallF := orC 88 impl_Bits_same.a (impl_Bits_same.u n) (D79 n)
theorem D80_ok : ∀ n g a K, D80 n g a K → callM C X0 n g a K := fun n => orC_ok (impl_Bits_same_ok hX n) (D79_ok hX n)
abbrev impl_Literal_holds.a : List TS := [.c (.o (.pdat 30 (.prod (.int .i64) (.prod .bool (.prod (.sl 79 (.prod (.int .i64) (.prod (.int .i64) (.prod (.int .i64) (.prod (.int .i64) (.prod (.int .i64) (.prod (.sl 90 (.int .u64)) (.sl 2 (.int .i64))))))))) (.sl 79 (.prod (.int .i64) (.prod (.int .i64) (.prod (.int .i64) (.prod (.int .i64) (.prod (.int .i64) (.prod (.sl 90 (.int .u64)) (.sl 2 (.int .i64)))))))))))) 0)), .c (.o (.dat 44 (.prod (.int .i64) (.sl 90 (.int .u64)))))]
def impl_Literal_holds.u (n : Nat) (v : VA impl_Literal_holds.a) (K : RES → Prop) : Prop := impl_Literal_holds.c n v.1 v.2.1 (fun r0 => K ⟨.c (.bool r0), []⟩)
theorem impl_Literal_holds_ok : ∀ n v K, impl_Literal_holds.u n v K → callM C X0 n 40 (fillA impl_Literal_holds.a v) K :=
 call_tell hX (fn := Try.f40) (c := bodyOf Try.f40) (by kernel_rfl) (by kernel_rfl) (A := impl_Literal_holds.a) (u := impl_Literal_holds.u) (fun _ _ h => h) (call := D80) (lp := fun n => noL) (D80_ok hX) (fun n => noL_ok) (fun n v K => by kernel_rfl)
def D81 (n : Nat) : CallF := orC 40 impl_Literal_holds.a (impl_Literal_holds.u n) (D80 n)
theorem D81_ok : ∀ n g a K, D81 n g a K → callM C X0 n g a K := fun n => orC_ok (impl_Literal_holds_ok hX n) (D80_ok hX n)
abbrev impl_Holds.a : List TS := [.c (.o (.dat 112 (.prod .str (.int .i64)))), .c (.o (.dat 44 (.prod (.int .i64) (.sl 90 (.int .u64))))), .a [.o (.int .i64), .o .bool, .o (.dat 79 (.prod (.int .i64) (.prod (.int .i64) (.prod (.int .i64) (.prod (.int .i64) (.prod (.int .i64) (.prod (.sl 90 (.int .u64)) (.sl 2 (.int .i64))))))))), .o (.dat 79 (.prod (.int .i64) (.prod (.int .i64) (.prod (.int .i64) (.prod (.int .i64) (.prod (.int .i64) (.prod (.sl 90 (.int .u64)) (.sl 2 (.int .i64)))))))))]]
def impl_Holds.u (n : Nat) (v : VA impl_Holds.a) (K : RES → Prop) : Prop := impl_Holds.c n v.1 v.2.1 v.2.2.1.1 v.2.2.1.2.1 v.2.2.1.2.2.1 v.2.2.1.2.2.2.1 (fun r0 r1 => K ⟨.tup [.c (.bool r0), .c (.bool r1)], []⟩)
theorem impl_Holds_ok : ∀ n v K, impl_Holds.u n v K → callM C X0 n 10 (fillA impl_Holds.a v) K :=
 call_tell hX (fn := Try.f10) (c := bodyOf Try.f10) (by kernel_rfl) (by kernel_rfl) (A := impl_Holds.a) (u := impl_Holds.u) (fun _ _ h => h) (call := D81) (lp := fun n => noL) (D81_ok hX) (fun n => noL_ok) (fun n v K => by kernel_rfl)
def D82 (n : Nat) : CallF := orC 10 impl_Holds.a (impl_Holds.u n) (D81 n)
theorem D82_ok : ∀ n g a K, D82 n g a K → callM C X0 n g a K := fun n => orC_ok (impl_Holds_ok hX n) (D81_ok hX n)
abbrev impl_FirstFails_1.a : List TS := [.a [.o (.int .i64), .o .bool, .o (.dat 79 (.prod (.int .i64) (.prod (.int .i64) (.prod (.int .i64) (.prod (.int .i64) (.prod (.int .i64) (.prod (.sl 90 (.int .u64)) (.sl 2 (.int .i64))))))))), .o (.dat 79 (.prod (.int .i64) (.prod (.int .i64) (.prod (.int .i64) (.prod (.int .i64) (.prod (.int .i64) (.prod (.sl 90 (.int .u64)) (.sl 2 (.int .i64)))))))))], .c (.o (.pdat 25 (.sl 44 (.prod (.int .i64) (.sl 90 (.int .u64)))) 0))]
def impl_FirstFails_1.u (n : Nat) (v : VA impl_FirstFails_1.a) (K : RES → Prop) : Prop := impl_FirstFails_1.c n v.1.1 v.1.2.1 v.1.2.2.1 v.1.2.2.2.1 v.2.1 (fun r0 => K ⟨.c (.bool r0), []⟩)
theorem impl_FirstFails_1_ok : ∀ n v K, impl_FirstFails_1.u n v K → callM C X0 n 42 (fillA impl_FirstFails_1.a v) K :=
 call_tell hX (fn := Try.f42) (c := bodyOf Try.f42) (by kernel_rfl) (by kernel_rfl) (A := impl_FirstFails_1.a) (u := impl_FirstFails_1.u) (fun _ _ h => h) (call := D82) (lp := fun n => noL) (D82_ok hX) (fun n => noL_ok) (fun n v K => by kernel_rfl)
def D83 (n : Nat) : CallF := orC 42 impl_FirstFails_1.a (impl_FirstFails_1.u n) (D82 n)
theorem D83_ok : ∀ n g a K, D83 n g a K → callM C X0 n g a K := fun n => orC_ok (impl_FirstFails_1_ok hX n) (D82_ok hX n)
abbrev slices_IndexFunc_Literal__impl_FirstFails_1.a : List TS := [.c (.o (.dat 30 (.prod (.int .i64) (.prod .bool (.prod (.sl 79 (.prod (.int .i64) (.prod (.int .i64) (.prod (.int .i64) (.prod (.int .i64) (.prod (.int .i64) (.prod (.sl 90 (.int .u64)) (.sl 2 (.int .i64))))))))) (.sl 79 (.prod (.int .i64) (.prod (.int .i64) (.prod (.int .i64) (.prod (.int .i64) (.prod (.int .i64) (.prod (.sl 90 (.int .u64)) (.sl 2 (.int .i64)))))))))))))), .c (.fn 42 [(false, 1)] 0 [.pdat 25 (.sl 44 (.prod (.int .i64) (.sl 90 (.int .u64)))) 0])]
def slices_IndexFunc_Literal__impl_FirstFails_1.u (n : Nat) (v : VA slices_IndexFunc_Literal__impl_FirstFails_1.a) (K : RES → Prop) : Prop := slices_IndexFunc_Literal__impl_FirstFails_1.c n v.1 v.2.1.1 (fun r0 => K ⟨.c (.int .i64 r0), []⟩)
abbrev slices_IndexFunc_Literal__impl_FirstFails_1.l2.s : ST := ⟨[(0, .c (.o (.dat 30 (.prod (.int .i64) (.prod .bool (.prod (.sl 79 (.prod (.int .i64) (.prod (.int .i64) (.prod (.int .i64) (.prod (.int .i64) (.prod (.int .i64) (.prod (.sl 90 (.int .u64)) (.sl 2 (.int .i64))))))))) (.sl 79 (.prod (.int .i64) (.prod (.int .i64) (.prod (.int .i64) (.prod (.int .i64) (.prod (.int .i64) (.prod (.sl 90 (.int .u64)) (.sl 2 (.int .i64))))))))))))))), (1, .c (.fn 42 [(false, 1)] 0 [.pdat 25 (.sl 44 (.prod (.int .i64) (.sl 90 (.int .u64)))) 0])), (7, .c (.o (.int .i64))), (8, .c (.o (.int .i64)))], [], [], [], []⟩
def slices_IndexFunc_Literal__impl_FirstFails_1.l2.u (n : Nat) (v : slices_IndexFunc_Literal__impl_FirstFails_1.l2.s.V) (K : X → St → Prop) : Prop := slices_IndexFunc_Literal__impl_FirstFails_1.l2 n v.1.1 v.1.2.1.1 v.1.2.2.1 v.1.2.2.2.1 (K (.exit 0) ⟨[], [], [], [], []⟩) (fun y0 => K .ret ⟨[(4, .c (.int .i64 y0))], [], [], [], []⟩)
theorem slices_IndexFunc_Literal__impl_FirstFails_1.l2_ok : ∀ n v K, slices_IndexFunc_Literal__impl_FirstFails_1.l2.u n v K → loopM C X0 n 41 2 (slices_IndexFunc_Literal__impl_FirstFails_1.l2.s.fill v) K :=
 loop_tell hX (fn := Try.f41) (c := bodyOf Try.f41) (a := loopOf Try.f41 2) (li := liOf (C.fi 41).loops 2) (by kernel_rfl) (by kernel_rfl) (of_decide_eq_true rfl) (by kernel_rfl) (by kernel_rfl) (T := slices_IndexFunc_Literal__impl_FirstFails_1.l2.s) (u := slices_IndexFunc_Literal__impl_FirstFails_1.l2.u) (fun _ _ h => h) (call := D83) (lp := fun n => noL) (D83_ok hX) (fun n => noL_ok) (fun n v K => by kernel_rfl)
theorem slices_IndexFunc_Literal__impl_FirstFails_1_ok : ∀ n v K, slices_IndexFunc_Literal__impl_FirstFails_1.u n v K → callM C X0 n 41 (fillA slices_IndexFunc_Literal__impl_FirstFails_1.a v) K :=
 call_tell hX (fn := Try.f41) (c := bodyOf Try.f41) (by kernel_rfl) (by kernel_rfl) (A := slices_IndexFunc_Literal__impl_FirstFails_1.a) (u := slices_IndexFunc_Literal__impl_FirstFails_1.u) (fun _ _ h => h) (call := D83) (lp := fun n => orL 2 slices_IndexFunc_Literal__impl_FirstFails_1.l2.s (slices_IndexFunc_Literal__impl_FirstFails_1.l2.u n) noL) (D83_ok hX) (fun n => (orL_ok (slices_IndexFunc_Literal__impl_FirstFails_1.l2_ok hX n) noL_ok)) (fun n v K => by kernel_rfl)
def D84 (n : Nat) : CallF := orC 41 slices_IndexFunc_Literal__impl_FirstFails_1.a (slices_IndexFunc_Literal__impl_FirstFails_1.u n) (D83 n)
theorem D84_ok : ∀ n g a K, D84 n g a K → callM C X0 n g a K := fun n => orC_ok (slices_IndexFunc_Literal__impl_FirstFails_1_ok hX n) (D83_ok hX n)
abbrev impl_FirstFails.a : List TS := [.c (.o (.dat 112 (.prod .str (.int .i64)))), .c (.o (.dat 44 (.prod (.int .i64) (.sl 90 (.int .u64))))), .c (.o (.dat 30 (.prod (.int .i64) (.prod .bool (.prod (.sl 79 (.prod (.int .i64) (.prod (.int .i64) (.prod (.int .i64) (.prod (.int .i64) (.prod (.int .i64) (.prod (.sl 90 (.int .u64)) (.sl 2 (.int .i64))))))))) (.sl 79 (.prod (.int .i64) (.prod (.int .i64) (.prod (.int .i64) (.prod (.int .i64) (.prod (.int .i64) (.prod (.sl 90 (.int .u64)) (.sl 2 (.int .i64))))))))))))))]
def impl_FirstFails.u (n : Nat) (v : VA impl_FirstFails.a) (K : RES → Prop) : Prop := impl_FirstFails.c n v.1 v.2.1 v.2.2.1 (fun r0 => K ⟨.c (.int .i64 r0), []⟩)
theorem impl_FirstFails_ok : ∀ n v K, impl_FirstFails.u n v K → callM C X0 n 11 (fillA impl_FirstFails.a v) K :=
 call_tell hX (fn := Try.f11) (c := bodyOf Try.f11) (by kernel_rfl) (by kernel_rfl) (A := impl_FirstFails.a) (u := impl_FirstFails.u) (fun _ _ h => h) (call := D84) (lp := fun n => noL) (D84_ok hX) (fun n => noL_ok) (fun n v K => by kernel_rfl)
def D85 (n : Nat) : CallF := orC 11 impl_FirstFails.a (impl_FirstFails.u n) (D84 n)
theorem D85_ok : ∀ n g a K, D85 n g a K → callM C X0 n g a K := fun n => orC_ok (impl_FirstFails_ok hX n) (D84_ok hX n)
abbrev laws_FnOpposite.a : List TS := [.c (.o (.dat 5 (.int .u8)))]
def laws_FnOpposite.u (n : Nat) (v : VA laws_FnOpposite.a) (K : RES → Prop) : Prop := laws_FnOpposite.c n v.1 (fun r0 => K ⟨.c (.bool r0), []⟩)
theorem laws_FnOpposite_ok : ∀ n v K, laws_FnOpposite.u n v K → callM C X0 n 3 (fillA laws_FnOpposite.a v) K :=
 call_tell hX (fn := Try.f3) (c := bodyOf Try.f3) (by kernel_rfl) (by kernel_rfl) (A := laws_FnOpposite.a) (u := laws_FnOpposite.u) (fun _ _ h => h) (call := D85) (lp := fun n => noL) (D85_ok hX) (fun n => noL_ok) (fun n v K => by kernel_rfl)
def D86 (n : Nat) : CallF := orC 3 laws_FnOpposite.a (laws_FnOpposite.u n) (D85 n)
theorem D86_ok : ∀ n g a K, D86 n g a K → callM C X0 n g a K := fun n => orC_ok (laws_FnOpposite_ok hX n) (D85_ok hX n)
end
end Go.Vsi
end
