/- Each told function is what the machine comes to. No statement is proved here. -/
import Derived.Test.YtbpgfmandlhnaaaM3
import Derived.Test.YtbpgfmandlhnaaaA1
import Derived.Test.YtbpgfmandlhnaaaProg
import Derived.KernelRfl

section
set_option linter.unusedVariables false
namespace Go.Vsi
abbrev Y10 : Ty := .prod .str (.int .i64)
abbrev Y9 : Ty := .prod (.int .i64) (.int .i64)
abbrev Y8 : Ty := .prod (.sl 5 (.int .u8)) (.int .i64)
abbrev Y7 : Ty := .prod (.int .i64) (.sl 90 (.int .u64))
abbrev Y6 : Ty := .prod (.int .i64) (.prod (.int .i64) (.prod .bool (.int .u8)))
abbrev Y5 : Ty := .prod (.int .i64) (.prod (.int .i64) (.prod (.int .i64) Y7))
abbrev Y4 : Ty := .prod (.int .i64) (.prod (.int .i64) (.prod (.int .i64) (.prod (.int .i64) (.prod (.sl 90 (.int .u64)) (.sl 2 (.int .i64))))))
abbrev Y3 : Ty := .prod (.int .i64) Y4
abbrev Y2 : Ty := .prod .bool (.prod (.sl 79 Y3) (.sl 79 Y3))
abbrev Y1 : Ty := .prod (.int .i64) Y2
open Go.Proofs
def tis : List (Nat × TI) := [
(1, ⟨false, 1, 8, [.undef], none, none, []⟩),
(2, ⟨false, 1, 8, [.int .i64 0], some (.int .i64), none, []⟩),
(3, ⟨false, 1, 8, [.int .i64 0], some (.int .i64), none, []⟩),
(4, ⟨false, 1, 1, [.bool false], some (.bool), none, []⟩),
(5, ⟨false, 1, 1, [.int .u8 0], some (.int .u8), none, []⟩),
(6, ⟨false, 1, 1, [.int .u8 0], some (.int .u8), none, []⟩),
(7, ⟨true, 4, 24, [.int .i64 0, .int .i64 0, .bool false, .int .u8 0], some Y6, none, [(0, 2), (1, 3), (2, 4), (3, 6)]⟩),
(8, ⟨true, 4, 24, [.int .i64 0, .int .i64 0, .bool false, .int .u8 0], some Y6, none, [(0, 2), (1, 3), (2, 4), (3, 6)]⟩),
(9, ⟨false, 1, 16, [.str []], some (.str), none, []⟩),
(10, ⟨false, 1, 16, [.str []], some (.str), none, []⟩),
(11, ⟨false, 1, 16, [.str []], some (.str), none, []⟩),
(12, ⟨false, 1, 8, [.int .u64 0], some (.int .u64), none, []⟩),
(13, ⟨true, 2, 24, [.str [], .int .u64 0], some (.prod .str (.int .u64)), none, [(0, 9), (1, 12)]⟩),
(14, ⟨true, 2, 24, [.str [], .int .u64 0], some (.prod .str (.int .u64)), none, [(0, 9), (1, 12)]⟩),
(15, ⟨false, 1, 8, [.undef], none, none, []⟩),
(16, ⟨false, 1, 8, [.undef], none, none, []⟩),
(17, ⟨false, 1, 8, [.undef], none, none, []⟩),
(18, ⟨true, 1, 8, [.undef], none, none, [(0, 17)]⟩),
(19, ⟨true, 1, 8, [.undef], none, none, [(0, 17)]⟩),
(20, ⟨false, 1, 16, [.undef], none, none, []⟩),
(21, ⟨false, 1, 4, [.int .i32 0], some (.int .i32), none, []⟩),
(22, ⟨false, 1, 24, [.emp 5 (.int .u8)], some (.sl 5 (.int .u8)), some 5, []⟩),
(23, ⟨false, 1, 8, [.undef], none, none, []⟩),
(24, ⟨false, 1, 24, [.emp 112 Y10], some (.sl 112 Y10), some 112, []⟩),
(25, ⟨false, 1, 24, [.emp 44 Y7], some (.sl 44 Y7), some 44, []⟩),
(26, ⟨false, 1, 24, [.emp 79 Y3], some (.sl 79 Y3), some 79, []⟩),
(27, ⟨true, 1, 24, [.emp 79 Y3], some (.sl 79 Y3), none, [(0, 26)]⟩),
(28, ⟨true, 1, 24, [.emp 79 Y3], some (.sl 79 Y3), none, [(0, 26)]⟩),
(29, ⟨true, 4, 64, [.int .i64 0, .bool false, .emp 79 Y3, .emp 79 Y3], some Y1, none, [(0, 2), (1, 4), (2, 28), (3, 28)]⟩),
(30, ⟨true, 4, 64, [.int .i64 0, .bool false, .emp 79 Y3, .emp 79 Y3], some Y1, none, [(0, 2), (1, 4), (2, 28), (3, 28)]⟩),
(32, ⟨false, 1, 8, [.undef], none, none, []⟩),
(34, ⟨false, 1, 8, [.undef], none, none, []⟩),
(35, ⟨false, 1, 8, [.undef], none, none, []⟩),
(36, ⟨false, 1, 24, [.emp 30 Y1], some (.sl 30 Y1), some 30, []⟩),
(38, ⟨false, 1, 8, [.undef], none, none, []⟩),
(39, ⟨false, 1, 24, [.emp 86 Y5], some (.sl 86 Y5), some 86, []⟩),
(41, ⟨false, 1, 8, [.undef], none, none, []⟩),
(42, ⟨false, 1, 24, [.emp 90 (.int .u64)], some (.sl 90 (.int .u64)), some 90, []⟩),
(43, ⟨true, 2, 32, [.int .i64 0, .emp 90 (.int .u64)], some Y7, none, [(0, 2), (1, 42)]⟩),
(44, ⟨true, 2, 32, [.int .i64 0, .emp 90 (.int .u64)], some Y7, none, [(0, 2), (1, 42)]⟩),
(46, ⟨false, 1, 8, [.undef], none, none, []⟩),
(47, ⟨false, 1, 8, [.undef], none, none, []⟩),
(48, ⟨false, 1, 8, [.undef], none, none, []⟩),
(49, ⟨false, 1, 8, [.undef], none, none, []⟩),
(51, ⟨false, 1, 8, [.undef], none, none, []⟩),
(52, ⟨false, 1, 24, [.emp 2 (.int .i64)], some (.sl 2 (.int .i64)), some 2, []⟩),
(54, ⟨false, 1, 8, [.undef], none, none, []⟩),
(55, ⟨false, 1, 8, [.undef], none, none, []⟩),
(57, ⟨false, 1, 8, [.undef], none, none, []⟩),
(58, ⟨false, 1, 8, [.undef], none, none, []⟩),
(60, ⟨false, 1, 8, [.undef], none, none, []⟩),
(61, ⟨false, 1, 8, [.undef], none, none, []⟩),
(62, ⟨false, 1, 8, [.undef], none, none, []⟩),
(63, ⟨false, 1, 8, [.undef], none, none, []⟩),
(64, ⟨false, 1, 8, [.undef], none, none, []⟩),
(65, ⟨false, 1, 8, [.undef], none, none, []⟩),
(66, ⟨false, 1, 8, [.undef], none, none, []⟩),
(67, ⟨false, 1, 8, [.undef], none, none, []⟩),
(68, ⟨false, 1, 8, [.undef], none, none, []⟩),
(69, ⟨false, 1, 8, [.undef], none, none, []⟩),
(70, ⟨false, 1, 8, [.undef], none, none, []⟩),
(71, ⟨false, 1, 8, [.undef], none, none, []⟩),
(72, ⟨false, 1, 8, [.undef], none, none, []⟩),
(73, ⟨false, 1, 8, [.undef], none, none, []⟩),
(74, ⟨false, 1, 8, [.undef], none, none, []⟩),
(75, ⟨false, 1, 8, [.undef], none, none, []⟩),
(76, ⟨false, 1, 8, [.undef], none, none, []⟩),
(77, ⟨false, 1, 24, [.emp 80 (.sl 122 Y9)], some (.sl 80 (.sl 122 Y9)), some 80, []⟩),
(78, ⟨true, 7, 88, [.int .i64 0, .int .i64 0, .int .i64 0, .int .i64 0, .int .i64 0, .emp 90 (.int .u64), .emp 2 (.int .i64)], some Y3, none, [(0, 2), (1, 2), (2, 2), (3, 2), (4, 44), (6, 52)]⟩),
(79, ⟨true, 7, 88, [.int .i64 0, .int .i64 0, .int .i64 0, .int .i64 0, .int .i64 0, .emp 90 (.int .u64), .emp 2 (.int .i64)], some Y3, none, [(0, 2), (1, 2), (2, 2), (3, 2), (4, 44), (6, 52)]⟩),
(80, ⟨false, 1, 24, [.emp 122 Y9], some (.sl 122 Y9), some 122, []⟩),
(81, ⟨false, 1, 8, [.undef], none, none, []⟩),
(82, ⟨false, 1, 8, [.undef], none, none, []⟩),
(83, ⟨false, 1, 8, [.undef], none, none, []⟩),
(84, ⟨false, 1, 8, [.undef], none, none, []⟩),
(85, ⟨true, 5, 56, [.int .i64 0, .int .i64 0, .int .i64 0, .int .i64 0, .emp 90 (.int .u64)], some Y5, none, [(0, 2), (1, 2), (2, 2), (3, 44)]⟩),
(86, ⟨true, 5, 56, [.int .i64 0, .int .i64 0, .int .i64 0, .int .i64 0, .emp 90 (.int .u64)], some Y5, none, [(0, 2), (1, 2), (2, 2), (3, 44)]⟩),
(87, ⟨false, 1, 8, [.undef], none, none, []⟩),
(88, ⟨false, 1, 8, [.undef], none, none, []⟩),
(89, ⟨false, 1, 8, [.undef], none, none, []⟩),
(90, ⟨false, 1, 8, [.int .u64 0], some (.int .u64), none, []⟩),
(92, ⟨false, 1, 8, [.undef], none, none, []⟩),
(93, ⟨false, 1, 8, [.undef], none, none, []⟩),
(94, ⟨false, 1, 8, [.undef], none, none, []⟩),
(95, ⟨false, 1, 8, [.undef], none, none, []⟩),
(96, ⟨false, 1, 8, [.undef], none, none, []⟩),
(97, ⟨false, 1, 8, [.undef], none, none, []⟩),
(98, ⟨false, 1, 8, [.undef], none, none, []⟩),
(99, ⟨false, 1, 8, [.int .u64 0], some (.int .u64), none, []⟩),
(100, ⟨false, 1, 8, [.undef], none, none, []⟩),
(101, ⟨false, 1, 8, [.undef], none, none, []⟩),
(102, ⟨false, 1, 8, [.undef], none, none, []⟩),
(103, ⟨false, 1, 8, [.undef], none, none, []⟩),
(104, ⟨false, 1, 8, [.undef], none, none, []⟩),
(105, ⟨false, 1, 8, [.undef], none, none, []⟩),
(106, ⟨true, 2, 32, [.emp 5 (.int .u8), .int .i64 0], some Y8, none, [(0, 22), (1, 3)]⟩),
(107, ⟨true, 2, 32, [.emp 5 (.int .u8), .int .i64 0], some Y8, none, [(0, 22), (1, 3)]⟩),
(108, ⟨false, 1, 8, [.undef], none, none, []⟩),
(109, ⟨false, 1, 8, [.undef], none, none, []⟩),
(110, ⟨false, 1, 8, [.undef], none, none, []⟩),
(111, ⟨true, 2, 24, [.str [], .int .i64 0], some Y10, none, [(0, 9), (1, 2)]⟩),
(112, ⟨true, 2, 24, [.str [], .int .i64 0], some Y10, none, [(0, 9), (1, 2)]⟩),
(113, ⟨false, 1, 8, [.undef], none, none, []⟩),
(114, ⟨false, 1, 8, [.undef], none, none, []⟩),
(115, ⟨false, 1, 8, [.undef], none, none, []⟩),
(116, ⟨false, 1, 8, [.undef], none, none, []⟩),
(117, ⟨false, 1, 8, [.undef], none, none, []⟩),
(118, ⟨false, 1, 8, [.undef], none, none, []⟩),
(119, ⟨false, 1, 8, [.undef], none, none, []⟩),
(120, ⟨false, 1, 8, [.undef], none, none, []⟩),
(121, ⟨true, 2, 16, [.int .i64 0, .int .i64 0], some Y9, none, [(0, 2), (1, 2)]⟩),
(122, ⟨true, 2, 16, [.int .i64 0, .int .i64 0], some Y9, none, [(0, 2), (1, 2)]⟩),
(123, ⟨false, 1, 24, [.emp 39 (.sl 86 Y5)], some (.sl 39 (.sl 86 Y5)), some 39, []⟩),
(124, ⟨false, 1, 8, [.undef], none, none, []⟩),
(125, ⟨false, 1, 8, [.undef], none, none, []⟩),
(126, ⟨false, 1, 8, [.undef], none, none, []⟩),
(127, ⟨false, 1, 8, [.undef], none, none, []⟩),
(128, ⟨false, 1, 8, [.undef], none, none, []⟩),
(129, ⟨false, 1, 8, [.undef], none, none, []⟩),
(130, ⟨false, 1, 8, [.undef], none, none, []⟩),
(131, ⟨false, 1, 8, [.undef], none, none, []⟩),
(132, ⟨false, 1, 8, [.undef], none, none, []⟩),
(133, ⟨false, 1, 8, [.undef], none, none, []⟩),
(134, ⟨false, 1, 8, [.undef], none, none, []⟩),
(135, ⟨false, 1, 8, [.undef], none, none, []⟩),
(137, ⟨false, 1, 8, [.undef], none, none, []⟩),
(138, ⟨false, 1, 8, [.undef], none, none, []⟩),
(139, ⟨false, 1, 8, [.undef], none, none, []⟩),
(140, ⟨false, 1, 8, [.undef], none, none, []⟩),
(141, ⟨false, 1, 8, [.undef], none, none, []⟩),
(142, ⟨false, 1, 8, [.undef], none, none, []⟩),
(143, ⟨false, 1, 8, [.undef], none, none, []⟩),
(144, ⟨false, 1, 8, [.undef], none, none, []⟩),
(145, ⟨false, 1, 8, [.undef], none, none, []⟩),
(146, ⟨false, 1, 8, [.undef], none, none, []⟩),
(147, ⟨false, 1, 8, [.undef], none, none, []⟩),
(148, ⟨false, 1, 24, [.emp 4 .bool], some (.sl 4 .bool), some 4, []⟩),
(149, ⟨false, 1, 8, [.undef], none, none, []⟩),
(150, ⟨false, 1, 8, [.undef], none, none, []⟩),
(151, ⟨false, 1, 8, [.undef], none, none, []⟩),
(152, ⟨false, 1, 8, [.undef], none, none, []⟩),
(153, ⟨false, 1, 8, [.undef], none, none, []⟩),
(154, ⟨false, 1, 8, [.undef], none, none, []⟩),
(155, ⟨false, 1, 8, [.undef], none, none, []⟩),
(156, ⟨false, 1, 8, [.undef], none, none, []⟩),
(157, ⟨false, 1, 8, [.undef], none, none, []⟩),
(158, ⟨false, 1, 8, [.undef], none, none, []⟩),
(159, ⟨false, 1, 8, [.undef], none, none, []⟩),
(160, ⟨false, 1, 8, [.undef], none, none, []⟩),
(161, ⟨false, 1, 8, [.undef], none, none, []⟩),
(162, ⟨false, 1, 8, [.undef], none, none, []⟩),
(163, ⟨false, 1, 8, [.undef], none, none, []⟩),
(164, ⟨false, 1, 8, [.undef], none, none, []⟩),
(165, ⟨false, 1, 8, [.undef], none, none, []⟩),
(166, ⟨false, 1, 8, [.undef], none, none, []⟩),
(167, ⟨false, 1, 8, [.undef], none, none, []⟩),
(168, ⟨true, 4, 40, [.undef, .undef, .undef, .undef], none, none, [(0, 17), (1, 17), (2, 17), (3, 9)]⟩),
(169, ⟨true, 4, 40, [.undef, .undef, .undef, .undef], none, none, [(0, 17), (1, 17), (2, 17), (3, 9)]⟩),
(170, ⟨true, 0, 0, [], none, none, []⟩),
(171, ⟨true, 0, 0, [], none, none, [(0, 170)]⟩),
(172, ⟨true, 0, 0, [], none, none, [(0, 170)]⟩),
(173, ⟨false, 1, 4, [.int .u32 0], some (.int .u32), none, []⟩),
(174, ⟨false, 1, 1, [.int .u8 0], some (.int .u8), none, []⟩),
(175, ⟨false, 1, 1, [.int .u8 0], some (.int .u8), none, []⟩),
(176, ⟨false, 1, 8, [.undef], none, none, []⟩),
(177, ⟨false, 1, 8, [.undef], none, none, []⟩),
(178, ⟨false, 1, 4, [.int .i32 0], some (.int .i32), none, []⟩),
(179, ⟨false, 1, 4, [.int .i32 0], some (.int .i32), none, []⟩),
(180, ⟨true, 11, 48, [.undef, .undef, .undef, .undef, .undef, .undef, .undef, .undef, .undef, .undef, .undef], none, none, [(0, 12), (1, 12), (2, 173), (3, 174), (4, 5), (5, 5), (6, 175), (7, 176), (8, 177), (9, 178), (10, 179)]⟩),
(181, ⟨true, 11, 48, [.undef, .undef, .undef, .undef, .undef, .undef, .undef, .undef, .undef, .undef, .undef], none, none, [(0, 12), (1, 12), (2, 173), (3, 174), (4, 5), (5, 5), (6, 175), (7, 176), (8, 177), (9, 178), (10, 179)]⟩),
(182, ⟨false, 1, 8, [.undef], none, none, []⟩)]
noncomputable def fns : List (Nat × Func) := [(6, Try.f6), (7, Try.f7), (11, Try.f11), (23, Try.f23), (24, Try.f24), (25, Try.f25), (26, Try.f26), (27, Try.f27), (28, Try.f28), (29, Try.f29), (30, Try.f30), (33, Try.f33), (35, Try.f35), (36, Try.f36), (37, Try.f37), (38, Try.f38), (39, Try.f39), (40, Try.f40), (41, Try.f41), (42, Try.f42), (43, Try.f43), (44, Try.f44), (49, Try.f49), (50, Try.f50), (52, Try.f52), (54, Try.f54), (55, Try.f55), (56, Try.f56), (62, Try.f62), (63, Try.f63), (64, Try.f64), (65, Try.f65), (66, Try.f66), (67, Try.f67), (68, Try.f68), (69, Try.f69), (70, Try.f70), (71, Try.f71), (72, Try.f72), (73, Try.f73), (74, Try.f74), (75, Try.f75), (76, Try.f76), (78, Try.f78), (79, Try.f79), (81, Try.f81), (82, Try.f82), (83, Try.f83), (84, Try.f84), (85, Try.f85), (86, Try.f86), (87, Try.f87), (88, Try.f88), (89, Try.f89), (90, Try.f90), (93, Try.f93), (94, Try.f94), (95, Try.f95), (98, Try.f98), (99, Try.f99), (100, Try.f100), (101, Try.f101), (102, Try.f102), (103, Try.f103), (104, Try.f104), (105, Try.f105), (106, Try.f106), (107, Try.f107), (108, Try.f108), (109, Try.f109), (110, Try.f110), (111, Try.f111), (112, Try.f112), (113, Try.f113), (114, Try.f114), (115, Try.f115), (116, Try.f116), (117, Try.f117), (118, Try.f118), (119, Try.f119), (120, Try.f120), (121, Try.f121), (122, Try.f122), (127, Try.f127), (128, Try.f128), (129, Try.f129), (130, Try.f130), (131, Try.f131), (132, Try.f132), (133, Try.f133), (134, Try.f134), (135, Try.f135), (136, Try.f136), (137, Try.f137), (138, Try.f138), (139, Try.f139), (140, Try.f140), (142, Try.f142), (143, Try.f143), (144, Try.f144)]
def fis : List (Nat × Fi) := [
(6, ⟨[], [], [(9, ⟨⟨[3, 4, 5, 6, 7], [(1000006, 1, .own 99)]⟩, [(0, ⟨[3, 4, 5], []⟩)], ⟨[2], []⟩⟩), (16, ⟨⟨[3, 4, 5, 6, 7, 8, 10, 11], [(1000010, 1, .own 99)]⟩, [(2, ⟨[3, 4, 5, 6, 7, 10], []⟩)], ⟨[2], []⟩⟩)]⟩),
(7, ⟨[], [], []⟩),
(11, ⟨[], [], []⟩),
(23, ⟨[], [some 0, some 1], []⟩),
(24, ⟨[], [], []⟩),
(25, ⟨[], [], [(6, ⟨⟨[0, 1, 5, 6, 7], []⟩, [(0, ⟨[6], []⟩)], ⟨[4], []⟩⟩)]⟩),
(26, ⟨[], [], []⟩),
(27, ⟨[], [], []⟩),
(28, ⟨[], [], []⟩),
(29, ⟨[], [], [(4, ⟨⟨[2, 3, 5], []⟩, [(0, ⟨[], []⟩)], ⟨[4], []⟩⟩)]⟩),
(30, ⟨[], [], []⟩),
(33, ⟨[1], [some 1], [(9, ⟨⟨[0, 7], [(7, 0, .own 1)]⟩, [(1, ⟨[7], []⟩)], ⟨[6], []⟩⟩)]⟩),
(35, ⟨[], [], [(4, ⟨⟨[0, 1, 5], []⟩, [(0, ⟨[], []⟩)], ⟨[4], []⟩⟩)]⟩),
(36, ⟨[], [], [(4, ⟨⟨[2, 3, 5], []⟩, [(0, ⟨[], []⟩)], ⟨[4], []⟩⟩)]⟩),
(37, ⟨[], [], [(3, ⟨⟨[0, 3, 4, 5, 6], [(5, 0, .own 1)]⟩, [(0, ⟨[4, 5], []⟩)], ⟨[4], []⟩⟩), (7, ⟨⟨[0, 3, 4, 5, 6, 7, 8], [(5, 0, .own 1), (7, 0, .own 1)]⟩, [(2, ⟨[0, 3, 4, 5, 6, 7], []⟩)], ⟨[4], []⟩⟩)]⟩),
(38, ⟨[], [], []⟩),
(39, ⟨[], [], [(5, ⟨⟨[0, 5, 12, 13, 14], []⟩, [(0, ⟨[], []⟩)], ⟨[4], []⟩⟩)]⟩),
(40, ⟨[], [], []⟩),
(41, ⟨[], [], [(2, ⟨⟨[0, 1, 7, 8], []⟩, [(0, ⟨[], []⟩)], ⟨[4], []⟩⟩)]⟩),
(42, ⟨[], [], []⟩),
(43, ⟨[1], [], [(17, ⟨⟨[0, 6, 7], [(1000007, 0, .own 99)]⟩, [(1, ⟨[6, 7], []⟩)], ⟨[6], []⟩⟩), (21, ⟨⟨[1, 6, 7, 9], [(1000007, 0, .own 99)]⟩, [(3, ⟨[6, 7], []⟩)], ⟨[6], []⟩⟩), (1000027, ⟨⟨[6, 7], []⟩, [(1000000, ⟨[6], []⟩)], ⟨[6], []⟩⟩)]⟩),
(44, ⟨[], [], []⟩),
(49, ⟨[], [], []⟩),
(50, ⟨[], [], [(3, ⟨⟨[0, 3, 4, 5, 17, 18], [(5, 0, .own 1)]⟩, [(0, ⟨[4, 5], []⟩)], ⟨[4], []⟩⟩), (8, ⟨⟨[0, 3, 4, 5, 6, 7, 8, 17, 18, 34, 35, 36], [(5, 0, .own 1), (8, 0, .own 1)]⟩, [(2, ⟨[0, 3, 4, 5, 6, 7, 8, 17, 18], []⟩)], ⟨[4], []⟩⟩)]⟩),
(52, ⟨[], [], []⟩),
(54, ⟨[1], [], [(2, ⟨⟨[1, 3, 10, 11, 12], []⟩, [(0, ⟨[], []⟩)], ⟨[], []⟩⟩)]⟩),
(55, ⟨[], [], [(3, ⟨⟨[1, 2, 3, 6, 7, 15, 16], []⟩, [(0, ⟨[2, 6, 7], []⟩)], ⟨[6], []⟩⟩)]⟩),
(56, ⟨[], [], [(5, ⟨⟨[0, 3, 9, 10, 11], []⟩, [(0, ⟨[3], []⟩)], ⟨[2], []⟩⟩)]⟩),
(62, ⟨[1], [some 0, some 1], [(5, ⟨⟨[0, 4, 5], [(4, 0, .own 99)]⟩, [(0, ⟨[0, 4], []⟩)], ⟨[2, 3], []⟩⟩)]⟩),
(63, ⟨[], [], []⟩),
(64, ⟨[0, 0, 4], [], [(1, ⟨⟨[0, 1, 2, 10, 11], []⟩, [(0, ⟨[], []⟩)], ⟨[], []⟩⟩)]⟩),
(65, ⟨[0, 1], [], []⟩),
(66, ⟨[], [], []⟩),
(67, ⟨[], [], [(2, ⟨⟨[0, 1, 5], []⟩, [(0, ⟨[], []⟩)], ⟨[4], []⟩⟩)]⟩),
(68, ⟨[], [], [(3, ⟨⟨[0, 1, 5, 6], []⟩, [(0, ⟨[5], []⟩)], ⟨[4], []⟩⟩)]⟩),
(69, ⟨[0, 1, 1], [], []⟩),
(70, ⟨[], [], [(3, ⟨⟨[0, 1, 5, 6], []⟩, [(0, ⟨[5], []⟩)], ⟨[4], []⟩⟩)]⟩),
(71, ⟨[], [], [(4, ⟨⟨[1, 3], []⟩, [(0, ⟨[], []⟩)], ⟨[2], []⟩⟩)]⟩),
(72, ⟨[], [], [(5, ⟨⟨[0, 2, 4, 5], []⟩, [(0, ⟨[2, 4], []⟩)], ⟨[2, 3], []⟩⟩)]⟩),
(73, ⟨[], [], [(3, ⟨⟨[1, 3, 4], [(3, 0, .own 99)]⟩, [(0, ⟨[3], []⟩)], ⟨[2], []⟩⟩)]⟩),
(74, ⟨[], [], []⟩),
(75, ⟨[1], [], []⟩),
(76, ⟨[1], [], []⟩),
(78, ⟨[1], [], [(5, ⟨⟨[1, 4, 5, 6, 7, 8], [(5, 0, .own 99)]⟩, [(0, ⟨[4, 5], []⟩)], ⟨[4], []⟩⟩)]⟩),
(79, ⟨[1], [], [(3, ⟨⟨[0, 3, 4], []⟩, [(0, ⟨[3], []⟩)], ⟨[2], []⟩⟩)]⟩),
(81, ⟨[1], [], [(4, ⟨⟨[0, 1, 7, 8, 9], [(7, 0, .own 99)]⟩, [(0, ⟨[7], []⟩)], ⟨[6], []⟩⟩)]⟩),
(82, ⟨[1], [], []⟩),
(83, ⟨[], [], [(5, ⟨⟨[0, 3, 4], []⟩, [(0, ⟨[3], []⟩)], ⟨[2], []⟩⟩), (10, ⟨⟨[0, 3, 4, 5], []⟩, [(2, ⟨[0, 3, 4], []⟩)], ⟨[2], []⟩⟩)]⟩),
(84, ⟨[], [], []⟩),
(85, ⟨[], [none], [(10, ⟨⟨[2, 6, 7, 8], [(1000007, 1, .dat)]⟩, [(1, ⟨[6, 7], []⟩)], ⟨[6], []⟩⟩)]⟩),
(86, ⟨[], [], [(4, ⟨⟨[0, 12, 13, 14], []⟩, [(0, ⟨[], []⟩)], ⟨[4], []⟩⟩)]⟩),
(87, ⟨[], [], []⟩),
(88, ⟨[], [], []⟩),
(89, ⟨[1], [], [(5, ⟨⟨[0, 1, 2, 6, 7, 8, 9, 10], [(7, 0, .own 99)]⟩, [(0, ⟨[1, 2, 6, 7, 8], [(7, 0, .own 99)]⟩)], ⟨[6], []⟩⟩), (1000034, ⟨⟨[0, 1, 2, 6, 7, 8, 9, 10, 13, 65, 117], []⟩, [(1000000, ⟨[0, 1, 2, 6, 7, 8, 9, 10, 13], []⟩)], ⟨[6], []⟩⟩)]⟩),
(90, ⟨[], [], [(7, ⟨⟨[0, 3, 5, 6, 7, 8], [(6, 0, .own 99)]⟩, [(0, ⟨[5, 6, 7], []⟩)], ⟨[4], []⟩⟩), (16, ⟨⟨[0, 3, 5, 6, 7, 8, 10], []⟩, [(2, ⟨[0, 3, 5, 6, 7, 8], []⟩)], ⟨[4], []⟩⟩), (20, ⟨⟨[5, 6, 7, 11], []⟩, [(4, ⟨[6], []⟩)], ⟨[4], []⟩⟩)]⟩),
(93, ⟨[], [], [(6, ⟨⟨[0, 3, 6, 7, 8, 29, 30], []⟩, [(0, ⟨[6, 7, 8], []⟩)], ⟨[4, 5], []⟩⟩), (13, ⟨⟨[0, 3, 6, 7, 8, 9, 10, 11, 29, 30, 52, 53, 54], []⟩, [(2, ⟨[0, 3, 6, 7, 8, 9, 10, 11, 29, 30], []⟩)], ⟨[4, 5], []⟩⟩)]⟩),
(94, ⟨[], [none], [(9, ⟨⟨[6, 7, 36, 37, 38], [(1000007, 1, .dat)]⟩, [(1, ⟨[6, 7], []⟩)], ⟨[6], []⟩⟩)]⟩),
(95, ⟨[], [], []⟩),
(98, ⟨[], [], []⟩),
(99, ⟨[], [], [(4, ⟨⟨[0, 3], []⟩, [(0, ⟨[], []⟩)], ⟨[2], []⟩⟩)]⟩),
(100, ⟨[], [], []⟩),
(101, ⟨[], [], []⟩),
(102, ⟨[], [], [(3, ⟨⟨[3, 6, 7, 8], []⟩, [(0, ⟨[3], []⟩)], ⟨[2], []⟩⟩)]⟩),
(103, ⟨[], [], []⟩),
(104, ⟨[], [], []⟩),
(105, ⟨[], [], [(4, ⟨⟨[0, 4, 5, 6], [(4, 0, .own 99)]⟩, [(0, ⟨[4, 5], []⟩)], ⟨[2, 3], []⟩⟩)]⟩),
(106, ⟨[], [], [(5, ⟨⟨[0, 1, 4, 6, 7], [(6, 0, .own 99)]⟩, [(0, ⟨[1, 4, 6], []⟩)], ⟨[4, 5], []⟩⟩)]⟩),
(107, ⟨[], [], []⟩),
(108, ⟨[1], [], []⟩),
(109, ⟨[1], [], []⟩),
(110, ⟨[1], [], []⟩),
(111, ⟨[1], [], []⟩),
(112, ⟨[], [], [(4, ⟨⟨[0, 3], []⟩, [(0, ⟨[], []⟩)], ⟨[2], []⟩⟩)]⟩),
(113, ⟨[], [], []⟩),
(114, ⟨[], [], [(8, ⟨⟨[1, 6, 8, 9, 10], [(8, 0, .own 99)]⟩, [(0, ⟨[6, 8], []⟩)], ⟨[6, 7], []⟩⟩)]⟩),
(115, ⟨[], [], [(6, ⟨⟨[1, 4, 6, 7, 8], []⟩, [(0, ⟨[4, 7], []⟩)], ⟨[4, 5], []⟩⟩)]⟩),
(116, ⟨[], [], [(6, ⟨⟨[1, 4, 6, 7, 8], [(7, 0, .own 99)]⟩, [(0, ⟨[4, 7], []⟩)], ⟨[4, 5], []⟩⟩)]⟩),
(117, ⟨[], [], []⟩),
(118, ⟨[], [], [(4, ⟨⟨[0, 1, 12, 13], []⟩, [(0, ⟨[], []⟩)], ⟨[4], []⟩⟩)]⟩),
(119, ⟨[], [], [(5, ⟨⟨[0, 5, 6, 7], []⟩, [(0, ⟨[0, 5, 6], []⟩)], ⟨[4], []⟩⟩), (8, ⟨⟨[0, 5, 6, 7, 8], []⟩, [(2, ⟨[0, 5, 6, 7], []⟩)], ⟨[4], []⟩⟩), (13, ⟨⟨[0, 5, 6, 9, 10], [(9, 0, .own 99)]⟩, [(4, ⟨[9], []⟩)], ⟨[4], []⟩⟩), (18, ⟨⟨[0, 5, 6, 9, 10, 11, 12], []⟩, [(6, ⟨[0, 5, 6, 9, 10, 11], []⟩)], ⟨[4], []⟩⟩)]⟩),
(120, ⟨[2], [], []⟩),
(121, ⟨[], [], [(2, ⟨⟨[0, 2, 4, 7], []⟩, [(0, ⟨[0, 4], []⟩)], ⟨[6], []⟩⟩), (1000007, ⟨⟨[0, 4, 63], []⟩, [(1000000, ⟨[0, 4], []⟩)], ⟨[6], []⟩⟩), (1000008, ⟨⟨[0, 4], []⟩, [(1000000, ⟨[6], []⟩)], ⟨[6], []⟩⟩)]⟩),
(122, ⟨[], [], [(3, ⟨⟨[0, 2, 4, 7, 8], []⟩, [(0, ⟨[0, 4, 7], []⟩)], ⟨[6], []⟩⟩)]⟩),
(127, ⟨[], [], [(11, ⟨⟨[8, 80, 81, 82], []⟩, [(1, ⟨[8], []⟩)], ⟨[6], []⟩⟩), (1000005, ⟨⟨[0, 1, 2, 7, 17], []⟩, [(1000000, ⟨[], []⟩)], ⟨[6], []⟩⟩), (1000009, ⟨⟨[0, 2, 7, 69], []⟩, [(1000000, ⟨[], []⟩)], ⟨[6], []⟩⟩), (1000021, ⟨⟨[0, 7, 137], []⟩, [(1000000, ⟨[], []⟩)], ⟨[6], []⟩⟩)]⟩),
(128, ⟨[], [], [(1000002, ⟨⟨[0, 3], []⟩, [(1000000, ⟨[2], []⟩)], ⟨[2], []⟩⟩), (1000003, ⟨⟨[0, 52], []⟩, [(1000000, ⟨[0], []⟩)], ⟨[2], []⟩⟩)]⟩),
(129, ⟨[], [], []⟩),
(130, ⟨[], [], []⟩),
(131, ⟨[], [], []⟩),
(132, ⟨[], [], [(3, ⟨⟨[2, 4, 5, 12, 13], []⟩, [(0, ⟨[4, 5], []⟩)], ⟨[4], []⟩⟩)]⟩),
(133, ⟨[], [], [(5, ⟨⟨[3, 6, 7, 26, 27], []⟩, [(0, ⟨[6, 7], []⟩)], ⟨[6], []⟩⟩)]⟩),
(134, ⟨[], [], []⟩),
(135, ⟨[], [], [(2, ⟨⟨[0, 1, 7, 8], []⟩, [(0, ⟨[], []⟩)], ⟨[4], []⟩⟩)]⟩),
(136, ⟨[], [], []⟩),
(137, ⟨[], [], []⟩),
(138, ⟨[], [], []⟩),
(139, ⟨[], [], []⟩),
(140, ⟨[], [], []⟩),
(142, ⟨[], [], [(2, ⟨⟨[0, 1, 7, 8], []⟩, [(0, ⟨[], []⟩)], ⟨[4], []⟩⟩)]⟩),
(143, ⟨[], [], []⟩),
(144, ⟨[1], [], []⟩)]
def fiF (f : Nat) : Fi := (look f fis).getD ⟨[], [], []⟩
noncomputable def C : Ctx := { ti := fun t => look t tis, fs := fun f => look f fns, fi := fiF }
def bodyOf (f : Func) : Code := f.body.getD .skip
def loopOf (f : Func) (k : Nat) : Code := (findLoop k (bodyOf f)).getD .skip
def cutOf (f : Func) (k : Nat) : Code := (findCut k (bodyOf f)).getD .skip
def liOf (l : List (Nat × Li)) (k : Nat) : Li := (look k l).getD ⟨⟨[], []⟩, [], ⟨[], []⟩⟩
theorem tis_ok : (tis.all fun x => tiB Try.prog x.1 x.2) = true := by kernel_rfl
theorem fns_all : (fns.all fun x => fnB (fiF x.1) x.2) = true := by kernel_rfl
theorem fnp (f : Nat) (x : Func) (r : List (Nat × Func)) (h : Try.prog.funcs[f]? = some x) (hr : ∀ y ∈ r, Try.prog.funcs[y.1]? = some y.2) : ∀ y ∈ (f, x) :: r, Try.prog.funcs[y.1]? = some y.2 := List.forall_mem_cons.2 ⟨h, hr⟩
set_option maxRecDepth 100000 in
theorem fns_prog : ∀ x ∈ fns, Try.prog.funcs[x.1]? = some x.2 := (fnp _ _ _ Try.func6
(fnp _ _ _ Try.func7
(fnp _ _ _ Try.func11
(fnp _ _ _ Try.func23
(fnp _ _ _ Try.func24
(fnp _ _ _ Try.func25
(fnp _ _ _ Try.func26
(fnp _ _ _ Try.func27
(fnp _ _ _ Try.func28
(fnp _ _ _ Try.func29
(fnp _ _ _ Try.func30
(fnp _ _ _ Try.func33
(fnp _ _ _ Try.func35
(fnp _ _ _ Try.func36
(fnp _ _ _ Try.func37
(fnp _ _ _ Try.func38
(fnp _ _ _ Try.func39
(fnp _ _ _ Try.func40
(fnp _ _ _ Try.func41
(fnp _ _ _ Try.func42
(fnp _ _ _ Try.func43
(fnp _ _ _ Try.func44
(fnp _ _ _ Try.func49
(fnp _ _ _ Try.func50
(fnp _ _ _ Try.func52
(fnp _ _ _ Try.func54
(fnp _ _ _ Try.func55
(fnp _ _ _ Try.func56
(fnp _ _ _ Try.func62
(fnp _ _ _ Try.func63
(fnp _ _ _ Try.func64
(fnp _ _ _ Try.func65
(fnp _ _ _ Try.func66
(fnp _ _ _ Try.func67
(fnp _ _ _ Try.func68
(fnp _ _ _ Try.func69
(fnp _ _ _ Try.func70
(fnp _ _ _ Try.func71
(fnp _ _ _ Try.func72
(fnp _ _ _ Try.func73
(fnp _ _ _ Try.func74
(fnp _ _ _ Try.func75
(fnp _ _ _ Try.func76
(fnp _ _ _ Try.func78
(fnp _ _ _ Try.func79
(fnp _ _ _ Try.func81
(fnp _ _ _ Try.func82
(fnp _ _ _ Try.func83
(fnp _ _ _ Try.func84
(fnp _ _ _ Try.func85
(fnp _ _ _ Try.func86
(fnp _ _ _ Try.func87
(fnp _ _ _ Try.func88
(fnp _ _ _ Try.func89
(fnp _ _ _ Try.func90
(fnp _ _ _ Try.func93
(fnp _ _ _ Try.func94
(fnp _ _ _ Try.func95
(fnp _ _ _ Try.func98
(fnp _ _ _ Try.func99
(fnp _ _ _ Try.func100
(fnp _ _ _ Try.func101
(fnp _ _ _ Try.func102
(fnp _ _ _ Try.func103
(fnp _ _ _ Try.func104
(fnp _ _ _ Try.func105
(fnp _ _ _ Try.func106
(fnp _ _ _ Try.func107
(fnp _ _ _ Try.func108
(fnp _ _ _ Try.func109
(fnp _ _ _ Try.func110
(fnp _ _ _ Try.func111
(fnp _ _ _ Try.func112
(fnp _ _ _ Try.func113
(fnp _ _ _ Try.func114
(fnp _ _ _ Try.func115
(fnp _ _ _ Try.func116
(fnp _ _ _ Try.func117
(fnp _ _ _ Try.func118
(fnp _ _ _ Try.func119
(fnp _ _ _ Try.func120
(fnp _ _ _ Try.func121
(fnp _ _ _ Try.func122
(fnp _ _ _ Try.func127
(fnp _ _ _ Try.func128
(fnp _ _ _ Try.func129
(fnp _ _ _ Try.func130
(fnp _ _ _ Try.func131
(fnp _ _ _ Try.func132
(fnp _ _ _ Try.func133
(fnp _ _ _ Try.func134
(fnp _ _ _ Try.func135
(fnp _ _ _ Try.func136
(fnp _ _ _ Try.func137
(fnp _ _ _ Try.func138
(fnp _ _ _ Try.func139
(fnp _ _ _ Try.func140
(fnp _ _ _ Try.func142
(fnp _ _ _ Try.func143
(fnp _ _ _ Try.func144
(fun _ h => by cases h)))))))))))))))))))))))))))))))))))))))))))))))))))))))))))))))))))))))))))))))))))))))))))))))))))))
theorem C_ok : CtxOK Try.prog C := ctx_ok tis_ok fns_prog
theorem C_fns : FnsOK Try.prog C := Go.Vsi.fns_ok fns_all
theorem C_follows : Try.prog.follows .mixedOrders = true := by kernel_rfl
def D0 (n : Nat) : CallF := noC
theorem D0_ok {X0 : CallF} (hX : CallF.Mono X0) : ∀ n g a K, D0 n g a K -> callM C X0 n g a K := fun n => noC_ok
end Go.Vsi
end

section
set_option linter.unusedVariables false
namespace Go.Vsi
open Go.Proofs
section
variable {X0 : CallF} (hX : CallF.Mono X0)
include hX
abbrev Z42.a : List TS := [.c (.o (.dat 5 (.int .u8)))]
def Z42.u (n : Nat) (v : VA Z42.a) (K : RES -> Prop) : Prop := Z42.c n v.1 (fun r0 => K ⟨.c (.bool r0), []⟩)
theorem Z42_ok : ∀ n v K, Z42.u n v K -> callM C X0 n 7 (fillA Z42.a v) K :=
 call_tell hX (fn := Try.f7) (c := bodyOf Try.f7) (by kernel_rfl) (by kernel_rfl) (A := Z42.a) (u := Z42.u) (fun _ _ h => h) (call := D0) (lp := fun n => noL) (D0_ok hX) (fun n => noL_ok) (fun n v K => by kernel_rfl)
def D1 (n : Nat) : CallF := orC 7 Z42.a (Z42.u n) (D0 n)
theorem D1_ok : ∀ n g a K, D1 n g a K -> callM C X0 n g a K := fun n => orC_ok (Z42_ok hX n) (D0_ok hX n)
abbrev Z72.a : List TS := [.c (.o (.dat 5 (.int .u8)))]
def Z72.u (n : Nat) (v : VA Z72.a) (K : RES -> Prop) : Prop := Z72.c n v.1 (fun r0 r1 => K ⟨.c (.boxr 107 [.dat 5 (.int .u8) r0, .int .i64 r1]), []⟩)
theorem Z72_ok : ∀ n v K, Z72.u n v K -> callM C X0 n 30 (fillA Z72.a v) K :=
 call_tell hX (fn := Try.f30) (c := bodyOf Try.f30) (by kernel_rfl) (by kernel_rfl) (A := Z72.a) (u := Z72.u) (fun _ _ h => h) (call := D1) (lp := fun n => noL) (D1_ok hX) (fun n => noL_ok) (fun n v K => by kernel_rfl)
def D2 (n : Nat) : CallF := orC 30 Z72.a (Z72.u n) (D1 n)
theorem D2_ok : ∀ n g a K, D2 n g a K -> callM C X0 n g a K := fun n => orC_ok (Z72_ok hX n) (D1_ok hX n)
abbrev Z77.a : List TS := [.c (.boxr 107 [.dat 5 (.int .u8), .int .i64])]
def Z77.u (n : Nat) (v : VA Z77.a) (K : RES -> Prop) : Prop := Z77.c n v.1.1 v.1.2.1 (fun r0 r1 r2 => K ⟨.c (.int .i64 r0), [[.boxr 107 [.dat 5 (.int .u8) r1, .int .i64 r2]]]⟩)
theorem Z77_ok : ∀ n v K, Z77.u n v K -> callM C X0 n 108 (fillA Z77.a v) K :=
 call_tell hX (fn := Try.f108) (c := bodyOf Try.f108) (by kernel_rfl) (by kernel_rfl) (A := Z77.a) (u := Z77.u) (fun _ _ h => h) (call := D2) (lp := fun n => noL) (D2_ok hX) (fun n => noL_ok) (fun n v K => by kernel_rfl)
def D3 (n : Nat) : CallF := orC 108 Z77.a (Z77.u n) (D2 n)
theorem D3_ok : ∀ n g a K, D3 n g a K -> callM C X0 n g a K := fun n => orC_ok (Z77_ok hX n) (D2_ok hX n)
abbrev Z73.a : List TS := [.c (.boxr 107 [.dat 5 (.int .u8), .int .i64]), .c (.o (.int .i64))]
def Z73.u (n : Nat) (v : VA Z73.a) (K : RES -> Prop) : Prop := Z73.c n v.1.1 v.1.2.1 v.2.1 (fun r0 r1 r2 => K ⟨.c (.int .i64 r0), [[.boxr 107 [.dat 5 (.int .u8) r1, .int .i64 r2]]]⟩)
theorem Z73_ok : ∀ n v K, Z73.u n v K -> callM C X0 n 75 (fillA Z73.a v) K :=
 call_tell hX (fn := Try.f75) (c := bodyOf Try.f75) (by kernel_rfl) (by kernel_rfl) (A := Z73.a) (u := Z73.u) (fun _ _ h => h) (call := D3) (lp := fun n => noL) (D3_ok hX) (fun n => noL_ok) (fun n v K => by kernel_rfl)
def D4 (n : Nat) : CallF := orC 75 Z73.a (Z73.u n) (D3 n)
theorem D4_ok : ∀ n g a K, D4 n g a K -> callM C X0 n g a K := fun n => orC_ok (Z73_ok hX n) (D3_ok hX n)
abbrev Z81.a : List TS := [.c (.boxr 107 [.dat 5 (.int .u8), .int .i64]), .c (.o (.int .i64))]
def Z81.u (n : Nat) (v : VA Z81.a) (K : RES -> Prop) : Prop := Z81.c n v.1.1 v.1.2.1 v.2.1 (fun r0 r1 r2 => K ⟨.c (.bool r0), [[.boxr 107 [.dat 5 (.int .u8) r1, .int .i64 r2]]]⟩)
theorem Z81_ok : ∀ n v K, Z81.u n v K -> callM C X0 n 76 (fillA Z81.a v) K :=
 call_tell hX (fn := Try.f76) (c := bodyOf Try.f76) (by kernel_rfl) (by kernel_rfl) (A := Z81.a) (u := Z81.u) (fun _ _ h => h) (call := D4) (lp := fun n => noL) (D4_ok hX) (fun n => noL_ok) (fun n v K => by kernel_rfl)
def D5 (n : Nat) : CallF := orC 76 Z81.a (Z81.u n) (D4 n)
theorem D5_ok : ∀ n g a K, D5 n g a K -> callM C X0 n g a K := fun n => orC_ok (Z81_ok hX n) (D4_ok hX n)
abbrev Z83.a : List TS := [.c (.boxr 107 [.dat 5 (.int .u8), .int .i64])]
def Z83.u (n : Nat) (v : VA Z83.a) (K : RES -> Prop) : Prop := Z83.c n v.1.1 v.1.2.1 (fun r0 r1 r2 => K ⟨.c (.int .u64 r0), [[.boxr 107 [.dat 5 (.int .u8) r1, .int .i64 r2]]]⟩)
abbrev Z83.l3.s : ST := ⟨[(0, .c (.o (.pbox 0 0))), (3, .c (.o (.int .u64))), (4, .c (.o (.int .i64)))], [], [⟨0, 107, [.o (.dat 5 (.int .u8)), .o (.int .i64)], false⟩], [], [0]⟩
def Z83.l3.u (n : Nat) (v : Z83.l3.s.V) (K : X -> St -> Prop) : Prop := Z83.l3 n v.1.2.1 v.1.2.2.1 v.2.2.1.1 v.2.2.1.2.1 (fun y0 y1 y2 => K (.exit 0) ⟨[(3, .c (.int .u64 y0))], [], [(0, ⟨107, [.dat 5 (.int .u8) y1, .int .i64 y2], false⟩)], [], [0]⟩)
theorem Z83.l3_ok : ∀ n v K, Z83.l3.u n v K -> loopM C X0 n 79 3 (Z83.l3.s.fill v) K :=
 loop_tell hX (fn := Try.f79) (c := bodyOf Try.f79) (a := loopOf Try.f79 3) (li := liOf (C.fi 79).loops 3) (by kernel_rfl) (by kernel_rfl) (of_decide_eq_true rfl) (by kernel_rfl) (by kernel_rfl) (T := Z83.l3.s) (u := Z83.l3.u) (fun _ _ h => h) (call := D5) (lp := fun n => noL) (D5_ok hX) (fun n => noL_ok) (fun n v K => by kernel_rfl)
theorem Z83_ok : ∀ n v K, Z83.u n v K -> callM C X0 n 79 (fillA Z83.a v) K :=
 call_tell hX (fn := Try.f79) (c := bodyOf Try.f79) (by kernel_rfl) (by kernel_rfl) (A := Z83.a) (u := Z83.u) (fun _ _ h => h) (call := D5) (lp := fun n => orL 3 Z83.l3.s (Z83.l3.u n) noL) (D5_ok hX) (fun n => (orL_ok (Z83.l3_ok hX n) noL_ok)) (fun n v K => by kernel_rfl)
def D6 (n : Nat) : CallF := orC 79 Z83.a (Z83.u n) (D5 n)
theorem D6_ok : ∀ n g a K, D6 n g a K -> callM C X0 n g a K := fun n => orC_ok (Z83_ok hX n) (D5_ok hX n)
abbrev Z68.a : List TS := [.c (.o (.dat 5 (.int .u8)))]
def Z68.u (n : Nat) (v : VA Z68.a) (K : RES -> Prop) : Prop := Z68.c n v.1 (fun r0 r1 r2 => K ⟨.tup [.agg [.int .i64 r0, .row ⟨90, .int .u64, r1, 99, none⟩], .c (.bool r2)], []⟩)
abbrev Z68.l5.s : ST := ⟨[(0, .c (.o (.dat 5 (.int .u8)))), (2, .c (.o (.pbox 2 0))), (4, .c (.o (.pbox 4 0))), (5, .c (.o (.int .i64)))], [⟨672, 90, .int .u64, 99⟩, ⟨1000065, 90, .int .u64, 99⟩], [⟨2, 44, [.o (.int .i64), .o (.own 1000065)], false⟩, ⟨4, 44, [.o (.int .i64), .o (.own 672)], false⟩], [], []⟩
def Z68.l5.u (n : Nat) (v : Z68.l5.s.V) (K : X -> St -> Prop) : Prop := Z68.l5 n v.1.1 v.2.1.2.1 v.2.2.1.1 v.2.2.2.1.1 v.1.2.2.2.1 v.2.1.1 (fun y0 y1 y2 y3 => K (.exit 0) ⟨[(2, .c (.pbox 2 0)), (4, .c (.pbox 4 0))], [(672, ⟨90, .int .u64, y0, 99, none⟩), (1000065, ⟨90, .int .u64, y1, 99, none⟩)], [(2, ⟨44, [.int .i64 y2, .own 1000065], false⟩), (4, ⟨44, [.int .i64 y3, .own 672], false⟩)], [], []⟩)
theorem Z68.l5_ok : ∀ n v K, Z68.l5.u n v K -> loopM C X0 n 72 5 (Z68.l5.s.fill v) K :=
 loop_tell hX (fn := Try.f72) (c := bodyOf Try.f72) (a := loopOf Try.f72 5) (li := liOf (C.fi 72).loops 5) (by kernel_rfl) (by kernel_rfl) (of_decide_eq_true rfl) (by kernel_rfl) (by kernel_rfl) (T := Z68.l5.s) (u := Z68.l5.u) (fun _ _ h => h) (call := D6) (lp := fun n => noL) (D6_ok hX) (fun n => noL_ok) (fun n v K => by kernel_rfl)
theorem Z68_ok : ∀ n v K, Z68.u n v K -> callM C X0 n 72 (fillA Z68.a v) K :=
 call_tell hX (fn := Try.f72) (c := bodyOf Try.f72) (by kernel_rfl) (by kernel_rfl) (A := Z68.a) (u := Z68.u) (fun _ _ h => h) (call := D6) (lp := fun n => orL 5 Z68.l5.s (Z68.l5.u n) noL) (D6_ok hX) (fun n => (orL_ok (Z68.l5_ok hX n) noL_ok)) (fun n v K => by kernel_rfl)
def D7 (n : Nat) : CallF := orC 72 Z68.a (Z68.u n) (D6 n)
theorem D7_ok : ∀ n g a K, D7 n g a K -> callM C X0 n g a K := fun n => orC_ok (Z68_ok hX n) (D6_ok hX n)
abbrev Z74.a : List TS := [.c (.boxr 107 [.dat 5 (.int .u8), .int .i64]), .c (.o (.int .i64))]
def Z74.u (n : Nat) (v : VA Z74.a) (K : RES -> Prop) : Prop := Z74.c n v.1.1 v.1.2.1 v.2.1 (fun r0 r1 r2 r3 => K ⟨.agg [.int .i64 r0, .row ⟨90, .int .u64, r1, 99, none⟩], [[.boxr 107 [.dat 5 (.int .u8) r2, .int .i64 r3]]]⟩)
abbrev Z74.l5.s : ST := ⟨[(1, .c (.o (.int .i64))), (4, .c (.o (.pbox 4 0))), (5, .c (.o (.own 160))), (6, .c (.o (.int .u64))), (7, .c (.o (.int .i64))), (8, .c (.o (.int .i64)))], [⟨160, 5, .int .u8, 99⟩, ⟨1000129, 90, .int .u64, 99⟩], [⟨0, 107, [.o (.dat 5 (.int .u8)), .o (.int .i64)], false⟩, ⟨4, 44, [.o (.int .i64), .o (.own 1000129)], false⟩], [], [0]⟩
def Z74.l5.u (n : Nat) (v : Z74.l5.s.V) (K : X -> St -> Prop) : Prop := Z74.l5 n v.1.1 v.1.2.2.2.1 v.1.2.2.2.2.1 v.2.1.2.1 v.2.2.1.1 v.2.2.1.2.1 v.2.2.2.1.1 v.1.2.2.2.2.2.1 v.2.1.1 (fun y0 y1 y2 y3 y4 => K (.exit 0) ⟨[(4, .c (.pbox 4 0)), (5, .c (.own 160))], [(160, ⟨5, .int .u8, y0, 99, none⟩), (1000129, ⟨90, .int .u64, y1, 99, none⟩)], [(0, ⟨107, [.dat 5 (.int .u8) y2, .int .i64 y3], false⟩), (4, ⟨44, [.int .i64 y4, .own 1000129], false⟩)], [], [0]⟩)
theorem Z74.l5_ok : ∀ n v K, Z74.l5.u n v K -> loopM C X0 n 78 5 (Z74.l5.s.fill v) K :=
 loop_tell hX (fn := Try.f78) (c := bodyOf Try.f78) (a := loopOf Try.f78 5) (li := liOf (C.fi 78).loops 5) (by kernel_rfl) (by kernel_rfl) (of_decide_eq_true rfl) (by kernel_rfl) (by kernel_rfl) (T := Z74.l5.s) (u := Z74.l5.u) (fun _ _ h => h) (call := D7) (lp := fun n => noL) (D7_ok hX) (fun n => noL_ok) (fun n v K => by kernel_rfl)
theorem Z74_ok : ∀ n v K, Z74.u n v K -> callM C X0 n 78 (fillA Z74.a v) K :=
 call_tell hX (fn := Try.f78) (c := bodyOf Try.f78) (by kernel_rfl) (by kernel_rfl) (A := Z74.a) (u := Z74.u) (fun _ _ h => h) (call := D7) (lp := fun n => orL 5 Z74.l5.s (Z74.l5.u n) noL) (D7_ok hX) (fun n => (orL_ok (Z74.l5_ok hX n) noL_ok)) (fun n v K => by kernel_rfl)
def D8 (n : Nat) : CallF := orC 78 Z74.a (Z74.u n) (D7 n)
theorem D8_ok : ∀ n g a K, D8 n g a K -> callM C X0 n g a K := fun n => orC_ok (Z74_ok hX n) (D7_ok hX n)
abbrev Z76.a : List TS := [.c (.boxr 107 [.dat 5 (.int .u8), .int .i64]), .c (.o (.int .i64)), .c (.o (.int .i64))]
def Z76.u (n : Nat) (v : VA Z76.a) (K : RES -> Prop) : Prop := Z76.c n v.1.1 v.1.2.1 v.2.1 v.2.2.1 (fun r0 r1 r2 => K ⟨.c (.int .i64 r0), [[.boxr 107 [.dat 5 (.int .u8) r1, .int .i64 r2]]]⟩)
theorem Z76_ok : ∀ n v K, Z76.u n v K -> callM C X0 n 111 (fillA Z76.a v) K :=
 call_tell hX (fn := Try.f111) (c := bodyOf Try.f111) (by kernel_rfl) (by kernel_rfl) (A := Z76.a) (u := Z76.u) (fun _ _ h => h) (call := D8) (lp := fun n => noL) (D8_ok hX) (fun n => noL_ok) (fun n v K => by kernel_rfl)
def D9 (n : Nat) : CallF := orC 111 Z76.a (Z76.u n) (D8 n)
theorem D9_ok : ∀ n g a K, D9 n g a K -> callM C X0 n g a K := fun n => orC_ok (Z76_ok hX n) (D8_ok hX n)
abbrev Z80.a : List TS := [.c (.boxr 107 [.dat 5 (.int .u8), .int .i64]), .c (.o (.int .i64)), .c (.o (.int .i64))]
def Z80.u (n : Nat) (v : VA Z80.a) (K : RES -> Prop) : Prop := Z80.c n v.1.1 v.1.2.1 v.2.1 v.2.2.1 (fun r0 r1 r2 => K ⟨.c (.int .i64 r0), [[.boxr 107 [.dat 5 (.int .u8) r1, .int .i64 r2]]]⟩)
theorem Z80_ok : ∀ n v K, Z80.u n v K -> callM C X0 n 82 (fillA Z80.a v) K :=
 call_tell hX (fn := Try.f82) (c := bodyOf Try.f82) (by kernel_rfl) (by kernel_rfl) (A := Z80.a) (u := Z80.u) (fun _ _ h => h) (call := D9) (lp := fun n => noL) (D9_ok hX) (fun n => noL_ok) (fun n v K => by kernel_rfl)
def D10 (n : Nat) : CallF := orC 82 Z80.a (Z80.u n) (D9 n)
theorem D10_ok : ∀ n g a K, D10 n g a K -> callM C X0 n g a K := fun n => orC_ok (Z80_ok hX n) (D9_ok hX n)
abbrev Z82.a : List TS := [.c (.boxr 107 [.dat 5 (.int .u8), .int .i64]), .c (.o (.int .i64)), .c (.o (.int .i64))]
def Z82.u (n : Nat) (v : VA Z82.a) (K : RES -> Prop) : Prop := Z82.c n v.1.1 v.1.2.1 v.2.1 v.2.2.1 (fun r0 r1 r2 => K ⟨.c (.int .i64 r0), [[.boxr 107 [.dat 5 (.int .u8) r1, .int .i64 r2]]]⟩)
theorem Z82_ok : ∀ n v K, Z82.u n v K -> callM C X0 n 109 (fillA Z82.a v) K :=
 call_tell hX (fn := Try.f109) (c := bodyOf Try.f109) (by kernel_rfl) (by kernel_rfl) (A := Z82.a) (u := Z82.u) (fun _ _ h => h) (call := D10) (lp := fun n => noL) (D10_ok hX) (fun n => noL_ok) (fun n v K => by kernel_rfl)
def D11 (n : Nat) : CallF := orC 109 Z82.a (Z82.u n) (D10 n)
theorem D11_ok : ∀ n g a K, D11 n g a K -> callM C X0 n g a K := fun n => orC_ok (Z82_ok hX n) (D10_ok hX n)
abbrev Z88.a : List TS := [.a [.o (.int .i64), .o (.int .i64), .o (.int .i64), .o (.int .i64), .o (.int .i64), .o (.dat 90 (.int .u64)), .o (.dat 2 (.int .i64))]]
def Z88.u (n : Nat) (v : VA Z88.a) (K : RES -> Prop) : Prop := Z88.c n v.1.1 v.1.2.1 v.1.2.2.1 v.1.2.2.2.1 v.1.2.2.2.2.1 v.1.2.2.2.2.2.1 v.1.2.2.2.2.2.2.1 (fun r0 r1 r2 r3 r4 r5 r6 => K ⟨.agg [.int .i64 r0, .int .i64 r1, .int .i64 r2, .int .i64 r3, .int .i64 r4, .row ⟨90, .int .u64, r5, 99, none⟩, .row ⟨2, .int .i64, r6, 99, none⟩], []⟩)
theorem Z88_ok : ∀ n v K, Z88.u n v K -> callM C X0 n 138 (fillA Z88.a v) K :=
 call_tell hX (fn := Try.f138) (c := bodyOf Try.f138) (by kernel_rfl) (by kernel_rfl) (A := Z88.a) (u := Z88.u) (fun _ _ h => h) (call := D11) (lp := fun n => noL) (D11_ok hX) (fun n => noL_ok) (fun n v K => by kernel_rfl)
def D12 (n : Nat) : CallF := orC 138 Z88.a (Z88.u n) (D11 n)
theorem D12_ok : ∀ n g a K, D12 n g a K -> callM C X0 n g a K := fun n => orC_ok (Z88_ok hX n) (D11_ok hX n)
abbrev Z94.a : List TS := [.c (.o (.dat 79 Y3)), .c (.o (.int .i64))]
def Z94.u (n : Nat) (v : VA Z94.a) (K : RES -> Prop) : Prop := Z94.c n v.1 v.2.1 (fun r0 => K ⟨.c (.row ⟨79, .prod (.int .i64) Y4, r0, 99, none⟩), []⟩)
abbrev Z94.l8.s : ST := ⟨[(0, .c (.o (.dat 79 Y3))), (5, .c (.o (.own 480))), (6, .c (.o (.own 672))), (7, .c (.o (.int .i64))), (8, .c (.o (.int .i64)))], [⟨480, 4, .bool, 99⟩, ⟨672, 2, .int .i64, 99⟩], [], [], []⟩
def Z94.l8.u (n : Nat) (v : Z94.l8.s.V) (K : X -> St -> Prop) : Prop := Z94.l8 n v.1.1 v.1.2.2.2.1 v.2.1.2.1 v.1.2.2.2.2.1 v.2.1.1 (fun y0 y1 y2 y3 => K (.exit 2) ⟨[(0, .c (.dat 79 Y3 y0)), (5, .c (.own 480)), (6, .c (.own 672)), (7, .c (.int .i64 y1))], [(480, ⟨4, .bool, y2, 99, none⟩), (672, ⟨2, .int .i64, y3, 99, none⟩)], [], [], []⟩)
abbrev Z94.l5.s : ST := ⟨[(0, .c (.o (.dat 79 Y3))), (5, .c (.o (.own 480))), (6, .c (.o (.own 672))), (7, .c (.o (.int .i64)))], [⟨480, 4, .bool, 99⟩, ⟨672, 2, .int .i64, 99⟩], [], [], []⟩
def Z94.l5.u (n : Nat) (v : Z94.l5.s.V) (K : X -> St -> Prop) : Prop := Z94.l5 n v.1.1 v.1.2.2.2.1 v.2.1.1 v.2.1.2.1 (fun y0 y1 y2 => K (.exit 0) ⟨[(0, .c (.dat 79 Y3 y0)), (5, .c (.own 480)), (6, .c (.own 672))], [(480, ⟨4, .bool, y1, 99, none⟩), (672, ⟨2, .int .i64, y2, 99, none⟩)], [], [], []⟩)
abbrev Z94.l18.s : ST := ⟨[(0, .c (.o (.dat 79 Y3))), (5, .c (.o (.own 480))), (6, .c (.o (.own 672))), (9, .c (.o (.own 288))), (10, .c (.o (.int .i64))), (11, .c (.o (.pbox 11 0))), (12, .c (.o (.int .i64)))], [⟨288, 79, .prod (.int .i64) Y4, 99⟩, ⟨480, 4, .bool, 99⟩, ⟨672, 2, .int .i64, 99⟩, ⟨2277, 90, .int .u64, 99⟩, ⟨2278, 2, .int .i64, 99⟩], [⟨11, 79, [.o (.int .i64), .o (.int .i64), .o (.int .i64), .o (.int .i64), .o (.int .i64), .o (.own 2277), .o (.own 2278)], false⟩], [], []⟩
def Z94.l18.u (n : Nat) (v : Z94.l18.s.V) (K : X -> St -> Prop) : Prop := Z94.l18 n v.1.1 v.1.2.2.2.2.1 v.2.1.1 v.2.1.2.1 v.2.1.2.2.1 v.2.1.2.2.2.1 v.2.2.1.1 v.2.2.1.2.1 v.2.2.1.2.2.1 v.2.2.1.2.2.2.1 v.2.2.1.2.2.2.2.1 v.1.2.2.2.2.2.2.1 v.2.1.2.2.2.2.1 (fun y0 y1 y2 y3 y4 y5 y6 y7 y8 y9 y10 y11 => K (.exit 6) ⟨[(0, .c (.dat 79 Y3 y0)), (5, .c (.own 480)), (6, .c (.own 672)), (9, .c (.own 288)), (10, .c (.int .i64 y1)), (11, .c (.pbox 11 0))], [(288, ⟨79, .prod (.int .i64) Y4, y2, 99, none⟩), (480, ⟨4, .bool, y3, 99, none⟩), (672, ⟨2, .int .i64, y4, 99, none⟩), (2277, ⟨90, .int .u64, y5, 99, none⟩), (2278, ⟨2, .int .i64, y6, 99, none⟩)], [(11, ⟨79, [.int .i64 y7, .int .i64 y8, .int .i64 y9, .int .i64 y10, .int .i64 y11, .own 2277, .own 2278], false⟩)], [], []⟩)
abbrev Z94.l13.s : ST := ⟨[(0, .c (.o (.dat 79 Y3))), (5, .c (.o (.own 480))), (6, .c (.o (.own 672))), (9, .c (.o (.own 288))), (10, .c (.o (.int .i64)))], [⟨288, 79, .prod (.int .i64) Y4, 99⟩, ⟨480, 4, .bool, 99⟩, ⟨672, 2, .int .i64, 99⟩], [], [], []⟩
def Z94.l13.u (n : Nat) (v : Z94.l13.s.V) (K : X -> St -> Prop) : Prop := Z94.l13 n v.1.1 v.1.2.2.2.2.1 v.2.1.1 v.2.1.2.1 v.2.1.2.2.1 (fun y0 => K (.exit 4) ⟨[(9, .c (.own 288))], [(288, ⟨79, .prod (.int .i64) Y4, y0, 99, none⟩)], [], [], []⟩)
theorem Z94.l8_ok : ∀ n v K, Z94.l8.u n v K -> loopM C X0 n 119 8 (Z94.l8.s.fill v) K :=
 loop_tell hX (fn := Try.f119) (c := bodyOf Try.f119) (a := loopOf Try.f119 8) (li := liOf (C.fi 119).loops 8) (by kernel_rfl) (by kernel_rfl) (of_decide_eq_true rfl) (by kernel_rfl) (by kernel_rfl) (T := Z94.l8.s) (u := Z94.l8.u) (fun _ _ h => h) (call := D12) (lp := fun n => noL) (D12_ok hX) (fun n => noL_ok) (fun n v K => by kernel_rfl)
theorem Z94.l5_ok : ∀ n v K, Z94.l5.u n v K -> loopM C X0 n 119 5 (Z94.l5.s.fill v) K :=
 loop_tell hX (fn := Try.f119) (c := bodyOf Try.f119) (a := loopOf Try.f119 5) (li := liOf (C.fi 119).loops 5) (by kernel_rfl) (by kernel_rfl) (of_decide_eq_true rfl) (by kernel_rfl) (by kernel_rfl) (T := Z94.l5.s) (u := Z94.l5.u) (fun _ _ h => h) (call := D12) (lp := fun n => orL 8 Z94.l8.s (Z94.l8.u n) noL) (D12_ok hX) (fun n => (orL_ok (Z94.l8_ok hX n) noL_ok)) (fun n v K => by kernel_rfl)
theorem Z94.l18_ok : ∀ n v K, Z94.l18.u n v K -> loopM C X0 n 119 18 (Z94.l18.s.fill v) K :=
 loop_tell hX (fn := Try.f119) (c := bodyOf Try.f119) (a := loopOf Try.f119 18) (li := liOf (C.fi 119).loops 18) (by kernel_rfl) (by kernel_rfl) (of_decide_eq_true rfl) (by kernel_rfl) (by kernel_rfl) (T := Z94.l18.s) (u := Z94.l18.u) (fun _ _ h => h) (call := D12) (lp := fun n => noL) (D12_ok hX) (fun n => noL_ok) (fun n v K => by kernel_rfl)
theorem Z94.l13_ok : ∀ n v K, Z94.l13.u n v K -> loopM C X0 n 119 13 (Z94.l13.s.fill v) K :=
 loop_tell hX (fn := Try.f119) (c := bodyOf Try.f119) (a := loopOf Try.f119 13) (li := liOf (C.fi 119).loops 13) (by kernel_rfl) (by kernel_rfl) (of_decide_eq_true rfl) (by kernel_rfl) (by kernel_rfl) (T := Z94.l13.s) (u := Z94.l13.u) (fun _ _ h => h) (call := D12) (lp := fun n => orL 18 Z94.l18.s (Z94.l18.u n) noL) (D12_ok hX) (fun n => (orL_ok (Z94.l18_ok hX n) noL_ok)) (fun n v K => by kernel_rfl)
theorem Z94_ok : ∀ n v K, Z94.u n v K -> callM C X0 n 119 (fillA Z94.a v) K :=
 call_tell hX (fn := Try.f119) (c := bodyOf Try.f119) (by kernel_rfl) (by kernel_rfl) (A := Z94.a) (u := Z94.u) (fun _ _ h => h) (call := D12) (lp := fun n => orL 5 Z94.l5.s (Z94.l5.u n) (orL 13 Z94.l13.s (Z94.l13.u n) noL)) (D12_ok hX) (fun n => (orL_ok (Z94.l5_ok hX n) (orL_ok (Z94.l13_ok hX n) noL_ok))) (fun n v K => by kernel_rfl)
def D13 (n : Nat) : CallF := orC 119 Z94.a (Z94.u n) (D12 n)
theorem D13_ok : ∀ n g a K, D13 n g a K -> callM C X0 n g a K := fun n => orC_ok (Z94_ok hX n) (D12_ok hX n)
abbrev Z67.a : List TS := [.c (.o (.int .u8))]
def Z67.u (n : Nat) (v : VA Z67.a) (K : RES -> Prop) : Prop := Z67.c n v.1 (fun r0 => K ⟨.c (.bool r0), []⟩)
theorem Z67_ok : ∀ n v K, Z67.u n v K -> callM C X0 n 137 (fillA Z67.a v) K :=
 call_tell hX (fn := Try.f137) (c := bodyOf Try.f137) (by kernel_rfl) (by kernel_rfl) (A := Z67.a) (u := Z67.u) (fun _ _ h => h) (call := D13) (lp := fun n => noL) (D13_ok hX) (fun n => noL_ok) (fun n v K => by kernel_rfl)
def D14 (n : Nat) : CallF := orC 137 Z67.a (Z67.u n) (D13 n)
theorem D14_ok : ∀ n g a K, D14 n g a K -> callM C X0 n g a K := fun n => orC_ok (Z67_ok hX n) (D13_ok hX n)
abbrev Z71.a : List TS := [.c (.o .str)]
def Z71.u (n : Nat) (v : VA Z71.a) (K : RES -> Prop) : Prop := Z71.c n v.1 (fun r0 => K ⟨.c (.bool r0), []⟩)
abbrev Z71.l4.s : ST := ⟨[(0, .c (.o .str)), (3, .c (.o (.int .i64)))], [], [], [], []⟩
def Z71.l4.u (n : Nat) (v : Z71.l4.s.V) (K : X -> St -> Prop) : Prop := Z71.l4 n v.1.1 v.1.2.1 (K (.exit 0) ⟨[], [], [], [], []⟩) (fun y0 => K .ret ⟨[(2, .c (.bool y0))], [], [], [], []⟩)
theorem Z71.l4_ok : ∀ n v K, Z71.l4.u n v K -> loopM C X0 n 112 4 (Z71.l4.s.fill v) K :=
 loop_tell hX (fn := Try.f112) (c := bodyOf Try.f112) (a := loopOf Try.f112 4) (li := liOf (C.fi 112).loops 4) (by kernel_rfl) (by kernel_rfl) (of_decide_eq_true rfl) (by kernel_rfl) (by kernel_rfl) (T := Z71.l4.s) (u := Z71.l4.u) (fun _ _ h => h) (call := D14) (lp := fun n => noL) (D14_ok hX) (fun n => noL_ok) (fun n v K => by kernel_rfl)
theorem Z71_ok : ∀ n v K, Z71.u n v K -> callM C X0 n 112 (fillA Z71.a v) K :=
 call_tell hX (fn := Try.f112) (c := bodyOf Try.f112) (by kernel_rfl) (by kernel_rfl) (A := Z71.a) (u := Z71.u) (fun _ _ h => h) (call := D14) (lp := fun n => orL 4 Z71.l4.s (Z71.l4.u n) noL) (D14_ok hX) (fun n => (orL_ok (Z71.l4_ok hX n) noL_ok)) (fun n v K => by kernel_rfl)
def D15 (n : Nat) : CallF := orC 112 Z71.a (Z71.u n) (D14 n)
theorem D15_ok : ∀ n g a K, D15 n g a K -> callM C X0 n g a K := fun n => orC_ok (Z71_ok hX n) (D14_ok hX n)
abbrev Z69.a : List TS := [.c (.o (.int .i64)), .c (.o (.int .i64)), .c (.o (.int .i64))]
def Z69.u (n : Nat) (v : VA Z69.a) (K : RES -> Prop) : Prop := Z69.c n v.1 v.2.1 v.2.2.1 (fun r0 => K ⟨.c (.bool r0), []⟩)
theorem Z69_ok : ∀ n v K, Z69.u n v K -> callM C X0 n 84 (fillA Z69.a v) K :=
 call_tell hX (fn := Try.f84) (c := bodyOf Try.f84) (by kernel_rfl) (by kernel_rfl) (A := Z69.a) (u := Z69.u) (fun _ _ h => h) (call := D15) (lp := fun n => noL) (D15_ok hX) (fun n => noL_ok) (fun n v K => by kernel_rfl)
def D16 (n : Nat) : CallF := orC 84 Z69.a (Z69.u n) (D15 n)
theorem D16_ok : ∀ n g a K, D16 n g a K -> callM C X0 n g a K := fun n => orC_ok (Z69_ok hX n) (D15_ok hX n)
abbrev Z56.a : List TS := [.c (.o (.dat 112 Y10))]
def Z56.u (n : Nat) (v : VA Z56.a) (K : RES -> Prop) : Prop := Z56.c n v.1 (fun r0 => K ⟨.c (.bool r0), []⟩)
abbrev Z56.l10.s : ST := ⟨[(0, .c (.o (.dat 112 Y10))), (3, .c (.o (.int .i64))), (4, .c (.o (.int .i64))), (5, .c (.o (.int .i64)))], [], [], [], []⟩
def Z56.l10.u (n : Nat) (v : Z56.l10.s.V) (K : X -> St -> Prop) : Prop := Z56.l10 n v.1.1 v.1.2.1 v.1.2.2.1 v.1.2.2.2.1 (fun y0 y1 y2 => K (.exit 2) ⟨[(0, .c (.dat 112 Y10 y0)), (3, .c (.int .i64 y1)), (4, .c (.int .i64 y2))], [], [], [], []⟩) (fun y0 => K .ret ⟨[(2, .c (.bool y0))], [], [], [], []⟩)
abbrev Z56.l5.s : ST := ⟨[(0, .c (.o (.dat 112 Y10))), (3, .c (.o (.int .i64))), (4, .c (.o (.int .i64)))], [], [], [], []⟩
def Z56.l5.u (n : Nat) (v : Z56.l5.s.V) (K : X -> St -> Prop) : Prop := Z56.l5 n v.1.1 v.1.2.1 v.1.2.2.1 (fun y0 => K (.exit 0) ⟨[(3, .c (.int .i64 y0))], [], [], [], []⟩) (fun y0 => K .ret ⟨[(2, .c (.bool y0))], [], [], [], []⟩)
theorem Z56.l10_ok : ∀ n v K, Z56.l10.u n v K -> loopM C X0 n 83 10 (Z56.l10.s.fill v) K :=
 loop_tell hX (fn := Try.f83) (c := bodyOf Try.f83) (a := loopOf Try.f83 10) (li := liOf (C.fi 83).loops 10) (by kernel_rfl) (by kernel_rfl) (of_decide_eq_true rfl) (by kernel_rfl) (by kernel_rfl) (T := Z56.l10.s) (u := Z56.l10.u) (fun _ _ h => h) (call := D16) (lp := fun n => noL) (D16_ok hX) (fun n => noL_ok) (fun n v K => by kernel_rfl)
theorem Z56.l5_ok : ∀ n v K, Z56.l5.u n v K -> loopM C X0 n 83 5 (Z56.l5.s.fill v) K :=
 loop_tell hX (fn := Try.f83) (c := bodyOf Try.f83) (a := loopOf Try.f83 5) (li := liOf (C.fi 83).loops 5) (by kernel_rfl) (by kernel_rfl) (of_decide_eq_true rfl) (by kernel_rfl) (by kernel_rfl) (T := Z56.l5.s) (u := Z56.l5.u) (fun _ _ h => h) (call := D16) (lp := fun n => orL 10 Z56.l10.s (Z56.l10.u n) noL) (D16_ok hX) (fun n => (orL_ok (Z56.l10_ok hX n) noL_ok)) (fun n v K => by kernel_rfl)
theorem Z56_ok : ∀ n v K, Z56.u n v K -> callM C X0 n 83 (fillA Z56.a v) K :=
 call_tell hX (fn := Try.f83) (c := bodyOf Try.f83) (by kernel_rfl) (by kernel_rfl) (A := Z56.a) (u := Z56.u) (fun _ _ h => h) (call := D16) (lp := fun n => orL 5 Z56.l5.s (Z56.l5.u n) noL) (D16_ok hX) (fun n => (orL_ok (Z56.l5_ok hX n) noL_ok)) (fun n v K => by kernel_rfl)
def D17 (n : Nat) : CallF := orC 83 Z56.a (Z56.u n) (D16 n)
theorem D17_ok : ∀ n g a K, D17 n g a K -> callM C X0 n g a K := fun n => orC_ok (Z56_ok hX n) (D16_ok hX n)
abbrev Z92.a : List TS := [.a [.o (.int .i64), .o (.dat 90 (.int .u64))]]
def Z92.u (n : Nat) (v : VA Z92.a) (K : RES -> Prop) : Prop := Z92.c n v.1.1 v.1.2.1 (fun r0 => K ⟨.c (.bool r0), []⟩)
theorem Z92_ok : ∀ n v K, Z92.u n v K -> callM C X0 n 139 (fillA Z92.a v) K :=
 call_tell hX (fn := Try.f139) (c := bodyOf Try.f139) (by kernel_rfl) (by kernel_rfl) (A := Z92.a) (u := Z92.u) (fun _ _ h => h) (call := D17) (lp := fun n => noL) (D17_ok hX) (fun n => noL_ok) (fun n v K => by kernel_rfl)
def D18 (n : Nat) : CallF := orC 139 Z92.a (Z92.u n) (D17 n)
theorem D18_ok : ∀ n g a K, D18 n g a K -> callM C X0 n g a K := fun n => orC_ok (Z92_ok hX n) (D17_ok hX n)
abbrev Z93.a : List TS := [.c (.o (.int .i64))]
def Z93.u (n : Nat) (v : VA Z93.a) (K : RES -> Prop) : Prop := Z93.c n v.1 (fun r0 => K ⟨.c (.bool r0), []⟩)
theorem Z93_ok : ∀ n v K, Z93.u n v K -> callM C X0 n 140 (fillA Z93.a v) K :=
 call_tell hX (fn := Try.f140) (c := bodyOf Try.f140) (by kernel_rfl) (by kernel_rfl) (A := Z93.a) (u := Z93.u) (fun _ _ h => h) (call := D18) (lp := fun n => noL) (D18_ok hX) (fun n => noL_ok) (fun n v K => by kernel_rfl)
def D19 (n : Nat) : CallF := orC 140 Z93.a (Z93.u n) (D18 n)
theorem D19_ok : ∀ n g a K, D19 n g a K -> callM C X0 n g a K := fun n => orC_ok (Z93_ok hX n) (D18_ok hX n)
abbrev Z66.a : List TS := [.a [.o (.int .i64), .o (.dat 90 (.int .u64))], .c (.o (.int .i64))]
def Z66.u (n : Nat) (v : VA Z66.a) (K : RES -> Prop) : Prop := Z66.c n v.1.1 v.1.2.1 v.2.1 (fun r0 => K ⟨.c (.int .u8 r0), []⟩)
theorem Z66_ok : ∀ n v K, Z66.u n v K -> callM C X0 n 74 (fillA Z66.a v) K :=
 call_tell hX (fn := Try.f74) (c := bodyOf Try.f74) (by kernel_rfl) (by kernel_rfl) (A := Z66.a) (u := Z66.u) (fun _ _ h => h) (call := D19) (lp := fun n => noL) (D19_ok hX) (fun n => noL_ok) (fun n v K => by kernel_rfl)
def D20 (n : Nat) : CallF := orC 74 Z66.a (Z66.u n) (D19 n)
theorem D20_ok : ∀ n g a K, D20 n g a K -> callM C X0 n g a K := fun n => orC_ok (Z66_ok hX n) (D19_ok hX n)
abbrev Z53.a : List TS := [.a [.o (.int .i64), .o (.dat 90 (.int .u64))]]
def Z53.u (n : Nat) (v : VA Z53.a) (K : RES -> Prop) : Prop := Z53.c n v.1.1 v.1.2.1 (fun r0 => K ⟨.c (.bool r0), []⟩)
abbrev Z53.l4.s : ST := ⟨[(1, .c (.o (.pbox 1 0))), (3, .c (.o (.int .i64)))], [], [⟨1, 44, [.o (.int .i64), .o (.dat 90 (.int .u64))], false⟩], [], []⟩
def Z53.l4.u (n : Nat) (v : Z53.l4.s.V) (K : X -> St -> Prop) : Prop := Z53.l4 n v.2.2.1.1 v.2.2.1.2.1 v.1.2.1 (K (.exit 0) ⟨[], [], [], [], []⟩) (fun y0 => K .ret ⟨[(2, .c (.bool y0))], [], [], [], []⟩)
theorem Z53.l4_ok : ∀ n v K, Z53.l4.u n v K -> loopM C X0 n 71 4 (Z53.l4.s.fill v) K :=
 loop_tell hX (fn := Try.f71) (c := bodyOf Try.f71) (a := loopOf Try.f71 4) (li := liOf (C.fi 71).loops 4) (by kernel_rfl) (by kernel_rfl) (of_decide_eq_true rfl) (by kernel_rfl) (by kernel_rfl) (T := Z53.l4.s) (u := Z53.l4.u) (fun _ _ h => h) (call := D20) (lp := fun n => noL) (D20_ok hX) (fun n => noL_ok) (fun n v K => by kernel_rfl)
theorem Z53_ok : ∀ n v K, Z53.u n v K -> callM C X0 n 71 (fillA Z53.a v) K :=
 call_tell hX (fn := Try.f71) (c := bodyOf Try.f71) (by kernel_rfl) (by kernel_rfl) (A := Z53.a) (u := Z53.u) (fun _ _ h => h) (call := D20) (lp := fun n => orL 4 Z53.l4.s (Z53.l4.u n) noL) (D20_ok hX) (fun n => (orL_ok (Z53.l4_ok hX n) noL_ok)) (fun n v K => by kernel_rfl)
def D21 (n : Nat) : CallF := orC 71 Z53.a (Z53.u n) (D20 n)
theorem D21_ok : ∀ n g a K, D21 n g a K -> callM C X0 n g a K := fun n => orC_ok (Z53_ok hX n) (D20_ok hX n)
abbrev Z90.a : List TS := [.c (.o (.dat 112 Y10)), .a [.o (.int .i64), .o (.int .i64), .o (.int .i64), .o (.int .i64), .o (.int .i64), .o (.dat 90 (.int .u64)), .o (.dat 2 (.int .i64))], .c (.o (.int .i64))]
def Z90.u (n : Nat) (v : VA Z90.a) (K : RES -> Prop) : Prop := Z90.c n v.1 v.2.1.1 v.2.1.2.1 v.2.1.2.2.1 v.2.1.2.2.2.1 v.2.1.2.2.2.2.1 v.2.1.2.2.2.2.2.1 v.2.1.2.2.2.2.2.2.1 v.2.2.1 (fun r0 => K ⟨.c (.bool r0), []⟩)
abbrev Z90.l2.s : ST := ⟨[(0, .c (.o (.dat 112 Y10))), (2, .c (.o (.int .i64))), (4, .c (.o (.pbox 4 0))), (7, .c (.o (.int .i64)))], [], [⟨4, 79, [.o (.int .i64), .o (.int .i64), .o (.int .i64), .o (.int .i64), .o (.int .i64), .o (.dat 90 (.int .u64)), .o (.dat 2 (.int .i64))], false⟩], [], []⟩
def Z90.l2.u (n : Nat) (v : Z90.l2.s.V) (K : X -> St -> Prop) : Prop := Z90.l2 n v.1.1 v.1.2.1 v.2.2.1.1 v.2.2.1.2.1 v.2.2.1.2.2.1 v.2.2.1.2.2.2.1 v.2.2.1.2.2.2.2.1 v.2.2.1.2.2.2.2.2.1 v.2.2.1.2.2.2.2.2.2.1 v.1.2.2.2.1 (fun y0 y1 y2 y3 y4 y5 y6 y7 => K (.exit 0) ⟨[(0, .c (.dat 112 Y10 y0)), (4, .c (.pbox 4 0))], [], [(4, ⟨79, [.int .i64 y1, .int .i64 y2, .int .i64 y3, .int .i64 y4, .int .i64 y5, .dat 90 (.int .u64) y6, .dat 2 (.int .i64) y7], false⟩)], [], []⟩) (fun y0 => K .ret ⟨[(6, .c (.bool y0))], [], [], [], []⟩)
abbrev Z90.q7.s : ST := ⟨[(0, .c (.o (.dat 112 Y10))), (4, .c (.o (.pbox 4 0))), (63, .c (.o .bool))], [], [⟨4, 79, [.o (.int .i64), .o (.int .i64), .o (.int .i64), .o (.int .i64), .o (.int .i64), .o (.dat 90 (.int .u64)), .o (.dat 2 (.int .i64))], false⟩], [], []⟩
def Z90.q7.u (n : Nat) (v : Z90.q7.s.V) (K : X -> St -> Prop) : Prop := Z90.q7 n v.1.1 v.1.2.2.1 v.2.2.1.1 v.2.2.1.2.1 v.2.2.1.2.2.1 v.2.2.1.2.2.2.1 v.2.2.1.2.2.2.2.1 v.2.2.1.2.2.2.2.2.1 v.2.2.1.2.2.2.2.2.2.1 (fun y0 => K .ret ⟨[(6, .c (.bool y0))], [], [], [], []⟩) (fun y0 y1 y2 y3 y4 y5 y6 y7 => K .normal ⟨[(0, .c (.dat 112 Y10 y0)), (4, .c (.pbox 4 0))], [], [(4, ⟨79, [.int .i64 y1, .int .i64 y2, .int .i64 y3, .int .i64 y4, .int .i64 y5, .dat 90 (.int .u64) y6, .dat 2 (.int .i64) y7], false⟩)], [], []⟩)
abbrev Z90.q8.s : ST := ⟨[(0, .c (.o (.dat 112 Y10))), (4, .c (.o (.pbox 4 0)))], [], [⟨4, 79, [.o (.int .i64), .o (.int .i64), .o (.int .i64), .o (.int .i64), .o (.int .i64), .o (.dat 90 (.int .u64)), .o (.dat 2 (.int .i64))], false⟩], [], []⟩
def Z90.q8.u (n : Nat) (v : Z90.q8.s.V) (K : X -> St -> Prop) : Prop := Z90.q8 n v.1.1 v.2.2.1.1 v.2.2.1.2.1 v.2.2.1.2.2.1 v.2.2.1.2.2.2.1 v.2.2.1.2.2.2.2.1 v.2.2.1.2.2.2.2.2.1 v.2.2.1.2.2.2.2.2.2.1 (fun y0 => K .ret ⟨[(6, .c (.bool y0))], [], [], [], []⟩)
theorem Z90.l2_ok : ∀ n v K, Z90.l2.u n v K -> loopM C X0 n 121 2 (Z90.l2.s.fill v) K :=
 loop_tell hX (fn := Try.f121) (c := bodyOf Try.f121) (a := loopOf Try.f121 2) (li := liOf (C.fi 121).loops 2) (by kernel_rfl) (by kernel_rfl) (of_decide_eq_true rfl) (by kernel_rfl) (by kernel_rfl) (T := Z90.l2.s) (u := Z90.l2.u) (fun _ _ h => h) (call := D21) (lp := fun n => noL) (D21_ok hX) (fun n => noL_ok) (fun n v K => by kernel_rfl)
theorem Z90.q7_ok : ∀ n v K, Z90.q7.u n v K -> loopM C X0 n 121 1000007 (Z90.q7.s.fill v) K :=
 cut_tell hX (fn := Try.f121) (c := bodyOf Try.f121) (a := cutOf Try.f121 7) (li := liOf (C.fi 121).loops 1000007) (by kernel_rfl) (by kernel_rfl) (of_decide_eq_true rfl) (by kernel_rfl) (by kernel_rfl) (T := Z90.q7.s) (u := Z90.q7.u) (fun _ _ h => h) (call := D21) (lp := fun n => noL) (D21_ok hX) (fun n => noL_ok) (fun n v K => by kernel_rfl)
theorem Z90.q8_ok : ∀ n v K, Z90.q8.u n v K -> loopM C X0 n 121 1000008 (Z90.q8.s.fill v) K :=
 cut_tell hX (fn := Try.f121) (c := bodyOf Try.f121) (a := cutOf Try.f121 8) (li := liOf (C.fi 121).loops 1000008) (by kernel_rfl) (by kernel_rfl) (of_decide_eq_true rfl) (by kernel_rfl) (by kernel_rfl) (T := Z90.q8.s) (u := Z90.q8.u) (fun _ _ h => h) (call := D21) (lp := fun n => noL) (D21_ok hX) (fun n => noL_ok) (fun n v K => by kernel_rfl)
theorem Z90_ok : ∀ n v K, Z90.u n v K -> callM C X0 n 121 (fillA Z90.a v) K :=
 call_tell hX (fn := Try.f121) (c := bodyOf Try.f121) (by kernel_rfl) (by kernel_rfl) (A := Z90.a) (u := Z90.u) (fun _ _ h => h) (call := D21) (lp := fun n => orL 2 Z90.l2.s (Z90.l2.u n) (orL 1000007 Z90.q7.s (Z90.q7.u n) (orL 1000008 Z90.q8.s (Z90.q8.u n) noL))) (D21_ok hX) (fun n => (orL_ok (Z90.l2_ok hX n) (orL_ok (Z90.q7_ok hX n) (orL_ok (Z90.q8_ok hX n) noL_ok)))) (fun n v K => by kernel_rfl)
def D22 (n : Nat) : CallF := orC 121 Z90.a (Z90.u n) (D21 n)
theorem D22_ok : ∀ n g a K, D22 n g a K -> callM C X0 n g a K := fun n => orC_ok (Z90_ok hX n) (D21_ok hX n)
abbrev Z96.a : List TS := [.c (.o (.dat 112 Y10)), .a [.o (.int .i64), .o (.int .i64), .o (.int .i64), .o (.int .i64), .o (.int .i64), .o (.dat 90 (.int .u64)), .o (.dat 2 (.int .i64))], .c (.o (.dat 2 (.int .i64)))]
def Z96.u (n : Nat) (v : VA Z96.a) (K : RES -> Prop) : Prop := Z96.c n v.1 v.2.1.1 v.2.1.2.1 v.2.1.2.2.1 v.2.1.2.2.2.1 v.2.1.2.2.2.2.1 v.2.1.2.2.2.2.2.1 v.2.1.2.2.2.2.2.2.1 v.2.2.1 (fun r0 => K ⟨.c (.int .i64 r0), []⟩)
abbrev Z96.l3.s : ST := ⟨[(0, .c (.o (.dat 112 Y10))), (2, .c (.o (.dat 2 (.int .i64)))), (4, .c (.o (.pbox 4 0))), (7, .c (.o (.int .i64))), (8, .c (.o (.int .i64)))], [], [⟨4, 79, [.o (.int .i64), .o (.int .i64), .o (.int .i64), .o (.int .i64), .o (.int .i64), .o (.dat 90 (.int .u64)), .o (.dat 2 (.int .i64))], false⟩], [], []⟩
def Z96.l3.u (n : Nat) (v : Z96.l3.s.V) (K : X -> St -> Prop) : Prop := Z96.l3 n v.1.1 v.1.2.1 v.2.2.1.1 v.2.2.1.2.1 v.2.2.1.2.2.1 v.2.2.1.2.2.2.1 v.2.2.1.2.2.2.2.1 v.2.2.1.2.2.2.2.2.1 v.2.2.1.2.2.2.2.2.2.1 v.1.2.2.2.1 v.1.2.2.2.2.1 (fun y0 y1 y2 y3 y4 y5 y6 y7 y8 => K (.exit 0) ⟨[(0, .c (.dat 112 Y10 y0)), (4, .c (.pbox 4 0)), (7, .c (.int .i64 y1))], [], [(4, ⟨79, [.int .i64 y2, .int .i64 y3, .int .i64 y4, .int .i64 y5, .int .i64 y6, .dat 90 (.int .u64) y7, .dat 2 (.int .i64) y8], false⟩)], [], []⟩)
theorem Z96.l3_ok : ∀ n v K, Z96.l3.u n v K -> loopM C X0 n 122 3 (Z96.l3.s.fill v) K :=
 loop_tell hX (fn := Try.f122) (c := bodyOf Try.f122) (a := loopOf Try.f122 3) (li := liOf (C.fi 122).loops 3) (by kernel_rfl) (by kernel_rfl) (of_decide_eq_true rfl) (by kernel_rfl) (by kernel_rfl) (T := Z96.l3.s) (u := Z96.l3.u) (fun _ _ h => h) (call := D22) (lp := fun n => noL) (D22_ok hX) (fun n => noL_ok) (fun n v K => by kernel_rfl)
theorem Z96_ok : ∀ n v K, Z96.u n v K -> callM C X0 n 122 (fillA Z96.a v) K :=
 call_tell hX (fn := Try.f122) (c := bodyOf Try.f122) (by kernel_rfl) (by kernel_rfl) (A := Z96.a) (u := Z96.u) (fun _ _ h => h) (call := D22) (lp := fun n => orL 3 Z96.l3.s (Z96.l3.u n) noL) (D22_ok hX) (fun n => (orL_ok (Z96.l3_ok hX n) noL_ok)) (fun n v K => by kernel_rfl)
def D23 (n : Nat) : CallF := orC 122 Z96.a (Z96.u n) (D22 n)
theorem D23_ok : ∀ n g a K, D23 n g a K -> callM C X0 n g a K := fun n => orC_ok (Z96_ok hX n) (D22_ok hX n)
abbrev Z97.a : List TS := [.c (.o (.dat 112 Y10)), .a [.o (.dat 79 Y3)]]
def Z97.u (n : Nat) (v : VA Z97.a) (K : RES -> Prop) : Prop := Z97.c n v.1 v.2.1.1 (fun r0 => K ⟨.c (.row ⟨2, .int .i64, r0, 99, none⟩), []⟩)
abbrev Z97.l16.s : ST := ⟨[(0, .c (.o (.dat 112 Y10))), (3, .c (.o (.pbox 3 0))), (5, .c (.o (.own 384))), (6, .c (.o (.own 2112))), (7, .c (.o (.own 1056))), (8, .c (.o (.int .i64))), (10, .c (.o (.int .i64)))], [⟨384, 2, .int .i64, 99⟩, ⟨1056, 4, .bool, 99⟩, ⟨2112, 2, .int .i64, 99⟩], [⟨3, 28, [.o (.dat 79 Y3)], false⟩], [], []⟩
def Z97.l16.u (n : Nat) (v : Z97.l16.s.V) (K : X -> St -> Prop) : Prop := Z97.l16 n v.1.1 v.1.2.2.2.2.2.1 v.2.1.1 v.2.1.2.2.1 v.2.2.1.1 v.1.2.2.2.2.2.2.1 v.2.1.2.1 (fun y0 y1 y2 y3 y4 y5 => K (.exit 2) ⟨[(0, .c (.dat 112 Y10 y0)), (3, .c (.pbox 3 0)), (5, .c (.own 384)), (6, .c (.own 2112)), (7, .c (.own 1056)), (8, .c (.int .i64 y1))], [(384, ⟨2, .int .i64, y2, 99, none⟩), (1056, ⟨4, .bool, y3, 99, none⟩), (2112, ⟨2, .int .i64, y4, 99, none⟩)], [(3, ⟨28, [.dat 79 Y3 y5], false⟩)], [], []⟩)
abbrev Z97.l7.s : ST := ⟨[(0, .c (.o (.dat 112 Y10))), (3, .c (.o (.pbox 3 0))), (5, .c (.o (.own 384))), (6, .c (.o (.own 192))), (7, .c (.o (.own 1056))), (8, .c (.o (.int .i64)))], [⟨192, 2, .int .i64, 99⟩, ⟨384, 2, .int .i64, 99⟩, ⟨1056, 4, .bool, 99⟩], [⟨3, 28, [.o (.dat 79 Y3)], false⟩], [], []⟩
def Z97.l7.u (n : Nat) (v : Z97.l7.s.V) (K : X -> St -> Prop) : Prop := Z97.l7 n v.1.1 v.1.2.2.2.2.2.1 v.2.1.1 v.2.1.2.1 v.2.1.2.2.1 v.2.2.1.1 (fun y0 y1 y2 => K (.exit 0) ⟨[(5, .c (.own 384)), (6, .c (.own 192)), (7, .c (.own 1056))], [(192, ⟨2, .int .i64, y0, 99, none⟩), (384, ⟨2, .int .i64, y1, 99, none⟩), (1056, ⟨4, .bool, y2, 99, none⟩)], [], [], []⟩) (fun y0 => K .ret ⟨[(4, .c (.own 384))], [(384, ⟨2, .int .i64, y0, 99, none⟩)], [], [], []⟩)
abbrev Z97.l20.s : ST := ⟨[(5, .c (.o (.own 384))), (6, .c (.o (.own 192))), (7, .c (.o (.own 1056))), (11, .c (.o (.int .i64)))], [⟨192, 2, .int .i64, 99⟩, ⟨384, 2, .int .i64, 99⟩, ⟨1056, 4, .bool, 99⟩], [], [], []⟩
def Z97.l20.u (n : Nat) (v : Z97.l20.s.V) (K : X -> St -> Prop) : Prop := Z97.l20 n v.2.1.1 v.2.1.2.1 v.2.1.2.2.1 v.1.2.2.2.1 (fun y0 => K (.exit 4) ⟨[(6, .c (.own 192))], [(192, ⟨2, .int .i64, y0, 99, none⟩)], [], [], []⟩) (fun y0 => K .ret ⟨[(4, .c (.own 384))], [(384, ⟨2, .int .i64, y0, 99, none⟩)], [], [], []⟩)
theorem Z97.l16_ok : ∀ n v K, Z97.l16.u n v K -> loopM C X0 n 90 16 (Z97.l16.s.fill v) K :=
 loop_tell hX (fn := Try.f90) (c := bodyOf Try.f90) (a := loopOf Try.f90 16) (li := liOf (C.fi 90).loops 16) (by kernel_rfl) (by kernel_rfl) (of_decide_eq_true rfl) (by kernel_rfl) (by kernel_rfl) (T := Z97.l16.s) (u := Z97.l16.u) (fun _ _ h => h) (call := D23) (lp := fun n => noL) (D23_ok hX) (fun n => noL_ok) (fun n v K => by kernel_rfl)
theorem Z97.l7_ok : ∀ n v K, Z97.l7.u n v K -> loopM C X0 n 90 7 (Z97.l7.s.fill v) K :=
 loop_tell hX (fn := Try.f90) (c := bodyOf Try.f90) (a := loopOf Try.f90 7) (li := liOf (C.fi 90).loops 7) (by kernel_rfl) (by kernel_rfl) (of_decide_eq_true rfl) (by kernel_rfl) (by kernel_rfl) (T := Z97.l7.s) (u := Z97.l7.u) (fun _ _ h => h) (call := D23) (lp := fun n => orL 16 Z97.l16.s (Z97.l16.u n) noL) (D23_ok hX) (fun n => (orL_ok (Z97.l16_ok hX n) noL_ok)) (fun n v K => by kernel_rfl)
theorem Z97.l20_ok : ∀ n v K, Z97.l20.u n v K -> loopM C X0 n 90 20 (Z97.l20.s.fill v) K :=
 loop_tell hX (fn := Try.f90) (c := bodyOf Try.f90) (a := loopOf Try.f90 20) (li := liOf (C.fi 90).loops 20) (by kernel_rfl) (by kernel_rfl) (of_decide_eq_true rfl) (by kernel_rfl) (by kernel_rfl) (T := Z97.l20.s) (u := Z97.l20.u) (fun _ _ h => h) (call := D23) (lp := fun n => noL) (D23_ok hX) (fun n => noL_ok) (fun n v K => by kernel_rfl)
theorem Z97_ok : ∀ n v K, Z97.u n v K -> callM C X0 n 90 (fillA Z97.a v) K :=
 call_tell hX (fn := Try.f90) (c := bodyOf Try.f90) (by kernel_rfl) (by kernel_rfl) (A := Z97.a) (u := Z97.u) (fun _ _ h => h) (call := D23) (lp := fun n => orL 7 Z97.l7.s (Z97.l7.u n) (orL 20 Z97.l20.s (Z97.l20.u n) noL)) (D23_ok hX) (fun n => (orL_ok (Z97.l7_ok hX n) (orL_ok (Z97.l20_ok hX n) noL_ok))) (fun n v K => by kernel_rfl)
def D24 (n : Nat) : CallF := orC 90 Z97.a (Z97.u n) (D23 n)
theorem D24_ok : ∀ n g a K, D24 n g a K -> callM C X0 n g a K := fun n => orC_ok (Z97_ok hX n) (D23_ok hX n)
abbrev Z64.a : List TS := [.c (.o (.dat 112 Y10)), .a [.o (.dat 79 Y3)]]
def Z64.u (n : Nat) (v : VA Z64.a) (K : RES -> Prop) : Prop := Z64.c n v.1 v.2.1.1 (fun r0 => K ⟨.c (.int .i64 r0), []⟩)
theorem Z64_ok : ∀ n v K, Z64.u n v K -> callM C X0 n 44 (fillA Z64.a v) K :=
 call_tell hX (fn := Try.f44) (c := bodyOf Try.f44) (by kernel_rfl) (by kernel_rfl) (A := Z64.a) (u := Z64.u) (fun _ _ h => h) (call := D24) (lp := fun n => noL) (D24_ok hX) (fun n => noL_ok) (fun n v K => by kernel_rfl)
def D25 (n : Nat) : CallF := orC 44 Z64.a (Z64.u n) (D24 n)
theorem D25_ok : ∀ n g a K, D25 n g a K -> callM C X0 n g a K := fun n => orC_ok (Z64_ok hX n) (D24_ok hX n)
abbrev Z89.a : List TS := [.c (.o (.row 79 Y3 99)), .c (.o (.int .i64)), .c (.o (.int .i64)), .c (.o (.int .i64))]
def Z89.u (n : Nat) (v : VA Z89.a) (K : RES -> Prop) : Prop := Z89.c n v.1 v.2.1 v.2.2.1 v.2.2.2.1 (fun r0 => K ⟨.c (.row ⟨79, .prod (.int .i64) Y4, r0, 99, none⟩), []⟩)
theorem Z89_ok : ∀ n v K, Z89.u n v K -> callM C X0 n 120 (fillA Z89.a v) K :=
 call_tell hX (fn := Try.f120) (c := bodyOf Try.f120) (by kernel_rfl) (by kernel_rfl) (A := Z89.a) (u := Z89.u) (fun _ _ h => h) (call := D25) (lp := fun n => noL) (D25_ok hX) (fun n => noL_ok) (fun n v K => by kernel_rfl)
def D26 (n : Nat) : CallF := orC 120 Z89.a (Z89.u n) (D25 n)
theorem D26_ok : ∀ n g a K, D26 n g a K -> callM C X0 n g a K := fun n => orC_ok (Z89_ok hX n) (D25_ok hX n)
abbrev Z91.a : List TS := [.c (.boxr 107 [.dat 5 (.int .u8), .int .i64]), .c (.o (.dat 112 Y10)), .c (.o (.int .i64))]
def Z91.u (n : Nat) (v : VA Z91.a) (K : RES -> Prop) : Prop := Z91.c n v.1.1 v.1.2.1 v.2.1 v.2.2.1 (fun r0 r1 r2 => K ⟨.agg [.row ⟨79, .prod (.int .i64) Y4, r0, 99, none⟩], [[.boxr 107 [.dat 5 (.int .u8) r1, .int .i64 r2]]]⟩)
abbrev Z91.q34.s : ST := ⟨[(0, .c (.o (.pbox 0 0))), (1, .c (.o (.dat 112 Y10))), (2, .c (.o (.int .i64))), (6, .c (.o (.pbox 6 0))), (7, .c (.o (.own 224))), (8, .c (.o (.int .i64))), (9, .c (.o (.int .i64))), (10, .c (.o (.int .i64))), (13, .c (.o (.pbox 13 0))), (65, .c (.o (.int .i64))), (117, .c (.o .bool))], [⟨224, 79, .prod (.int .i64) Y4, 99⟩, ⟨1984, 2, .int .i64, 99⟩, ⟨2021, 90, .int .u64, 99⟩, ⟨1000192, 79, .prod (.int .i64) Y4, 99⟩], [⟨0, 107, [.o (.dat 5 (.int .u8)), .o (.int .i64)], false⟩, ⟨6, 28, [.o (.own 1000192)], false⟩, ⟨13, 79, [.o (.int .i64), .o (.int .i64), .o (.int .i64), .o (.int .i64), .o (.int .i64), .o (.own 2021), .o (.own 1984)], false⟩], [], [0]⟩
def Z91.q34.u (n : Nat) (v : Z91.q34.s.V) (K : X -> St -> Prop) : Prop := Z91.q34 n v.1.2.1 v.1.2.2.1 v.1.2.2.2.2.2.1 v.1.2.2.2.2.2.2.1 v.1.2.2.2.2.2.2.2.1 v.1.2.2.2.2.2.2.2.2.2.1 v.1.2.2.2.2.2.2.2.2.2.2.1 v.2.1.1 v.2.1.2.1 v.2.1.2.2.1 v.2.1.2.2.2.1 v.2.2.1.1 v.2.2.1.2.1 v.2.2.2.2.1.1 v.2.2.2.2.1.2.1 v.2.2.2.2.1.2.2.1 v.2.2.2.2.1.2.2.2.1 v.2.2.2.2.1.2.2.2.2.1 (fun y0 y1 y2 y3 y4 y5 y6 y7 y8 y9 y10 y11 y12 y13 y14 y15 => K .normal ⟨[(0, .c (.pbox 0 0)), (1, .c (.dat 112 Y10 y0)), (2, .c (.int .i64 y1)), (6, .c (.pbox 6 0)), (7, .c (.own 224)), (8, .c (.int .i64 y2)), (9, .c (.int .i64 y3)), (10, .c (.int .i64 y4)), (13, .c (.pbox 13 0))], [(224, ⟨79, .prod (.int .i64) Y4, y5, 99, none⟩), (1984, ⟨2, .int .i64, y6, 99, none⟩), (2021, ⟨90, .int .u64, y7, 99, none⟩), (1000192, ⟨79, .prod (.int .i64) Y4, y8, 99, none⟩)], [(0, ⟨107, [.dat 5 (.int .u8) y9, .int .i64 y10], false⟩), (6, ⟨28, [.own 1000192], false⟩), (13, ⟨79, [.int .i64 y11, .int .i64 y12, .int .i64 y13, .int .i64 y14, .int .i64 y15, .own 2021, .own 1984], false⟩)], [], [0]⟩)
abbrev Z91.l5.s : ST := ⟨[(0, .c (.o (.pbox 0 0))), (1, .c (.o (.dat 112 Y10))), (2, .c (.o (.int .i64))), (6, .c (.o (.pbox 6 0))), (7, .c (.o (.own 224))), (8, .c (.o (.int .i64))), (9, .c (.o (.int .i64))), (10, .c (.o (.int .i64)))], [⟨224, 79, .prod (.int .i64) Y4, 99⟩, ⟨1000192, 79, .prod (.int .i64) Y4, 99⟩], [⟨0, 107, [.o (.dat 5 (.int .u8)), .o (.int .i64)], false⟩, ⟨6, 28, [.o (.own 1000192)], false⟩], [], [0]⟩
def Z91.l5.u (n : Nat) (v : Z91.l5.s.V) (K : X -> St -> Prop) : Prop := Z91.l5 n v.1.2.1 v.1.2.2.1 v.1.2.2.2.2.2.1 v.1.2.2.2.2.2.2.1 v.1.2.2.2.2.2.2.2.1 v.2.1.1 v.2.1.2.1 v.2.2.1.1 v.2.2.1.2.1 (fun y0 y1 y2 y3 y4 y5 y6 => K (.exit 0) ⟨[(1, .c (.dat 112 Y10 y0)), (2, .c (.int .i64 y1)), (6, .c (.pbox 6 0)), (7, .c (.own 224)), (8, .c (.int .i64 y2))], [(224, ⟨79, .prod (.int .i64) Y4, y3, 99, none⟩), (1000192, ⟨79, .prod (.int .i64) Y4, y4, 99, none⟩)], [(0, ⟨107, [.dat 5 (.int .u8) y5, .int .i64 y6], false⟩), (6, ⟨28, [.own 1000192], false⟩)], [], [0]⟩)
theorem Z91.q34_ok : ∀ n v K, Z91.q34.u n v K -> loopM C X0 n 89 1000034 (Z91.q34.s.fill v) K :=
 cut_tell hX (fn := Try.f89) (c := bodyOf Try.f89) (a := cutOf Try.f89 34) (li := liOf (C.fi 89).loops 1000034) (by kernel_rfl) (by kernel_rfl) (of_decide_eq_true rfl) (by kernel_rfl) (by kernel_rfl) (T := Z91.q34.s) (u := Z91.q34.u) (fun _ _ h => h) (call := D26) (lp := fun n => noL) (D26_ok hX) (fun n => noL_ok) (fun n v K => by kernel_rfl)
theorem Z91.l5_ok : ∀ n v K, Z91.l5.u n v K -> loopM C X0 n 89 5 (Z91.l5.s.fill v) K :=
 loop_tell hX (fn := Try.f89) (c := bodyOf Try.f89) (a := loopOf Try.f89 5) (li := liOf (C.fi 89).loops 5) (by kernel_rfl) (by kernel_rfl) (of_decide_eq_true rfl) (by kernel_rfl) (by kernel_rfl) (T := Z91.l5.s) (u := Z91.l5.u) (fun _ _ h => h) (call := D26) (lp := fun n => orL 1000034 Z91.q34.s (Z91.q34.u n) noL) (D26_ok hX) (fun n => (orL_ok (Z91.q34_ok hX n) noL_ok)) (fun n v K => by kernel_rfl)
theorem Z91_ok : ∀ n v K, Z91.u n v K -> callM C X0 n 89 (fillA Z91.a v) K :=
 call_tell hX (fn := Try.f89) (c := bodyOf Try.f89) (by kernel_rfl) (by kernel_rfl) (A := Z91.a) (u := Z91.u) (fun _ _ h => h) (call := D26) (lp := fun n => orL 5 Z91.l5.s (Z91.l5.u n) noL) (D26_ok hX) (fun n => (orL_ok (Z91.l5_ok hX n) noL_ok)) (fun n v K => by kernel_rfl)
def D27 (n : Nat) : CallF := orC 89 Z91.a (Z91.u n) (D26 n)
theorem D27_ok : ∀ n g a K, D27 n g a K -> callM C X0 n g a K := fun n => orC_ok (Z91_ok hX n) (D26_ok hX n)
abbrev Z99.a : List TS := [.c (.boxr 107 [.dat 5 (.int .u8), .int .i64]), .c (.o (.dat 112 Y10)), .c (.o (.int .i64))]
def Z99.u (n : Nat) (v : VA Z99.a) (K : RES -> Prop) : Prop := Z99.c n v.1.1 v.1.2.1 v.2.1 v.2.2.1 (fun r0 r1 r2 r3 r4 r5 => K ⟨.agg [.int .i64 r0, .bool r1, .row ⟨79, .prod (.int .i64) Y4, r2, 99, none⟩, .row ⟨79, .prod (.int .i64) Y4, r3, 99, none⟩], [[.boxr 107 [.dat 5 (.int .u8) r4, .int .i64 r5]]]⟩)
theorem Z99_ok : ∀ n v K, Z99.u n v K -> callM C X0 n 110 (fillA Z99.a v) K :=
 call_tell hX (fn := Try.f110) (c := bodyOf Try.f110) (by kernel_rfl) (by kernel_rfl) (A := Z99.a) (u := Z99.u) (fun _ _ h => h) (call := D27) (lp := fun n => noL) (D27_ok hX) (fun n => noL_ok) (fun n v K => by kernel_rfl)
def D28 (n : Nat) : CallF := orC 110 Z99.a (Z99.u n) (D27 n)
theorem D28_ok : ∀ n g a K, D28 n g a K -> callM C X0 n g a K := fun n => orC_ok (Z99_ok hX n) (D27_ok hX n)
abbrev Z75.a : List TS := [.c (.boxr 107 [.dat 5 (.int .u8), .int .i64]), .c (.o (.dat 112 Y10)), .c (.o (.int .i64))]
def Z75.u (n : Nat) (v : VA Z75.a) (K : RES -> Prop) : Prop := Z75.c n v.1.1 v.1.2.1 v.2.1 v.2.2.1 (fun r0 r1 r2 => K ⟨.c (.row ⟨30, .prod (.int .i64) Y2, r0, 99, none⟩), [[.boxr 107 [.dat 5 (.int .u8) r1, .int .i64 r2]]]⟩)
abbrev Z75.l4.s : ST := ⟨[(0, .c (.o (.pbox 0 0))), (1, .c (.o (.dat 112 Y10))), (7, .c (.o (.own 224))), (8, .c (.o (.int .i64))), (9, .c (.o (.int .i64)))], [⟨224, 30, .prod (.int .i64) Y2, 99⟩], [⟨0, 107, [.o (.dat 5 (.int .u8)), .o (.int .i64)], false⟩], [], [0]⟩
def Z75.l4.u (n : Nat) (v : Z75.l4.s.V) (K : X -> St -> Prop) : Prop := Z75.l4 n v.1.2.1 v.1.2.2.2.1 v.1.2.2.2.2.1 v.2.1.1 v.2.2.1.1 v.2.2.1.2.1 (fun y0 y1 y2 => K (.exit 0) ⟨[(7, .c (.own 224))], [(224, ⟨30, .prod (.int .i64) Y2, y0, 99, none⟩)], [(0, ⟨107, [.dat 5 (.int .u8) y1, .int .i64 y2], false⟩)], [], [0]⟩)
theorem Z75.l4_ok : ∀ n v K, Z75.l4.u n v K -> loopM C X0 n 81 4 (Z75.l4.s.fill v) K :=
 loop_tell hX (fn := Try.f81) (c := bodyOf Try.f81) (a := loopOf Try.f81 4) (li := liOf (C.fi 81).loops 4) (by kernel_rfl) (by kernel_rfl) (of_decide_eq_true rfl) (by kernel_rfl) (by kernel_rfl) (T := Z75.l4.s) (u := Z75.l4.u) (fun _ _ h => h) (call := D28) (lp := fun n => noL) (D28_ok hX) (fun n => noL_ok) (fun n v K => by kernel_rfl)
theorem Z75_ok : ∀ n v K, Z75.u n v K -> callM C X0 n 81 (fillA Z75.a v) K :=
 call_tell hX (fn := Try.f81) (c := bodyOf Try.f81) (by kernel_rfl) (by kernel_rfl) (A := Z75.a) (u := Z75.u) (fun _ _ h => h) (call := D28) (lp := fun n => orL 4 Z75.l4.s (Z75.l4.u n) noL) (D28_ok hX) (fun n => (orL_ok (Z75.l4_ok hX n) noL_ok)) (fun n v K => by kernel_rfl)
def D29 (n : Nat) : CallF := orC 81 Z75.a (Z75.u n) (D28 n)
theorem D29_ok : ∀ n g a K, D29 n g a K -> callM C X0 n g a K := fun n => orC_ok (Z75_ok hX n) (D28_ok hX n)
abbrev Z79.a : List TS := [.c (.boxr 107 [.dat 5 (.int .u8), .int .i64]), .c (.o (.dat 112 Y10)), .c (.o (.int .i64))]
def Z79.u (n : Nat) (v : VA Z79.a) (K : RES -> Prop) : Prop := Z79.c n v.1.1 v.1.2.1 v.2.1 v.2.2.1 (fun r0 r1 r2 => K ⟨.agg [.row ⟨79, .prod (.int .i64) Y4, r0, 99, none⟩], [[.boxr 107 [.dat 5 (.int .u8) r1, .int .i64 r2]]]⟩)
abbrev Z79.q27.s : ST := ⟨[(6, .c (.o (.pbox 6 0))), (7, .c (.o (.pbox 7 0)))], [⟨480, 79, .prod (.int .i64) Y4, 99⟩, ⟨1000192, 79, .prod (.int .i64) Y4, 99⟩], [⟨0, 107, [.o (.dat 5 (.int .u8)), .o (.int .i64)], false⟩, ⟨6, 28, [.o (.own 1000192)], false⟩, ⟨7, 28, [.o (.own 480)], false⟩], [], [0]⟩
def Z79.q27.u (n : Nat) (v : Z79.q27.s.V) (K : X -> St -> Prop) : Prop := Z79.q27 n v.2.1.1 v.2.1.2.1 v.2.2.1.1 v.2.2.1.2.1 (fun y0 y1 y2 => K .ret ⟨[(6, .c (.pbox 6 0))], [(480, ⟨79, .prod (.int .i64) Y4, y0, 99, none⟩)], [(0, ⟨107, [.dat 5 (.int .u8) y1, .int .i64 y2], false⟩), (6, ⟨28, [.own 480], false⟩)], [], [0]⟩)
abbrev Z79.q27_1.s : ST := ⟨[(6, .c (.o (.pbox 6 0))), (7, .c (.o (.pbox 7 0)))], [⟨2784, 79, .prod (.int .i64) Y4, 99⟩, ⟨1000192, 79, .prod (.int .i64) Y4, 99⟩], [⟨0, 107, [.o (.dat 5 (.int .u8)), .o (.int .i64)], false⟩, ⟨6, 28, [.o (.own 1000192)], false⟩, ⟨7, 28, [.o (.own 2784)], false⟩], [], [0]⟩
def Z79.q27_1.u (n : Nat) (v : Z79.q27_1.s.V) (K : X -> St -> Prop) : Prop := Z79.q27_1 n v.2.1.1 v.2.1.2.1 v.2.2.1.1 v.2.2.1.2.1 (fun y0 y1 y2 => K .ret ⟨[(6, .c (.pbox 6 0))], [(2784, ⟨79, .prod (.int .i64) Y4, y0, 99, none⟩)], [(0, ⟨107, [.dat 5 (.int .u8) y1, .int .i64 y2], false⟩), (6, ⟨28, [.own 2784], false⟩)], [], [0]⟩)
abbrev Z79.l17.s : ST := ⟨[(0, .c (.o (.pbox 0 0))), (6, .c (.o (.pbox 6 0))), (7, .c (.o (.pbox 7 0)))], [⟨1000192, 79, .prod (.int .i64) Y4, 99⟩, ⟨1000224, 79, .prod (.int .i64) Y4, 99⟩], [⟨0, 107, [.o (.dat 5 (.int .u8)), .o (.int .i64)], false⟩, ⟨6, 28, [.o (.own 1000192)], false⟩, ⟨7, 28, [.o (.own 1000224)], false⟩], [], [0]⟩
def Z79.l17.u (n : Nat) (v : Z79.l17.s.V) (K : X -> St -> Prop) : Prop := Z79.l17 n v.2.1.1 v.2.1.2.1 v.2.2.1.1 v.2.2.1.2.1 (fun y0 y1 y2 y3 => K (.exit 1) ⟨[(6, .c (.pbox 6 0)), (7, .c (.pbox 7 0))], [(1000192, ⟨79, .prod (.int .i64) Y4, y0, 99, none⟩), (1000224, ⟨79, .prod (.int .i64) Y4, y1, 99, none⟩)], [(0, ⟨107, [.dat 5 (.int .u8) y2, .int .i64 y3], false⟩), (6, ⟨28, [.own 1000192], false⟩), (7, ⟨28, [.own 1000224], false⟩)], [], [0]⟩)
abbrev Z79.q27_2.s : ST := ⟨[(6, .c (.o (.pbox 6 0))), (7, .c (.o (.pbox 7 0)))], [⟨1000192, 79, .prod (.int .i64) Y4, 99⟩, ⟨1000224, 79, .prod (.int .i64) Y4, 99⟩], [⟨0, 107, [.o (.dat 5 (.int .u8)), .o (.int .i64)], false⟩, ⟨6, 28, [.o (.own 1000192)], false⟩, ⟨7, 28, [.o (.own 1000224)], false⟩], [], [0]⟩
def Z79.q27_2.u (n : Nat) (v : Z79.q27_2.s.V) (K : X -> St -> Prop) : Prop := Z79.q27_2 n v.2.1.1 v.2.1.2.1 v.2.2.1.1 v.2.2.1.2.1 (fun y0 y1 y2 => K .ret ⟨[(6, .c (.pbox 6 0))], [(1000224, ⟨79, .prod (.int .i64) Y4, y0, 99, none⟩)], [(0, ⟨107, [.dat 5 (.int .u8) y1, .int .i64 y2], false⟩), (6, ⟨28, [.own 1000224], false⟩)], [], [0]⟩)
abbrev Z79.l21.s : ST := ⟨[(1, .c (.o (.dat 112 Y10))), (6, .c (.o (.pbox 6 0))), (7, .c (.o (.pbox 7 0))), (9, .c (.o (.int .i64)))], [⟨1000192, 79, .prod (.int .i64) Y4, 99⟩, ⟨1000224, 79, .prod (.int .i64) Y4, 99⟩], [⟨0, 107, [.o (.dat 5 (.int .u8)), .o (.int .i64)], false⟩, ⟨6, 28, [.o (.own 1000192)], false⟩, ⟨7, 28, [.o (.own 1000224)], false⟩], [], [0]⟩
def Z79.l21.u (n : Nat) (v : Z79.l21.s.V) (K : X -> St -> Prop) : Prop := Z79.l21 n v.1.1 v.2.1.1 v.2.2.1.1 v.2.2.1.2.1 v.1.2.2.2.1 v.2.1.2.1 (fun y0 y1 y2 y3 => K (.exit 3) ⟨[(6, .c (.pbox 6 0)), (7, .c (.pbox 7 0))], [(1000192, ⟨79, .prod (.int .i64) Y4, y0, 99, none⟩), (1000224, ⟨79, .prod (.int .i64) Y4, y1, 99, none⟩)], [(0, ⟨107, [.dat 5 (.int .u8) y2, .int .i64 y3], false⟩), (6, ⟨28, [.own 1000192], false⟩), (7, ⟨28, [.own 1000224], false⟩)], [], [0]⟩)
theorem Z79.q27_ok : ∀ n v K, Z79.q27.u n v K -> loopM C X0 n 43 1000027 (Z79.q27.s.fill v) K :=
 cut_tell hX (fn := Try.f43) (c := bodyOf Try.f43) (a := cutOf Try.f43 27) (li := liOf (C.fi 43).loops 1000027) (by kernel_rfl) (by kernel_rfl) (of_decide_eq_true rfl) (by kernel_rfl) (by kernel_rfl) (T := Z79.q27.s) (u := Z79.q27.u) (fun _ _ h => h) (call := D29) (lp := fun n => noL) (D29_ok hX) (fun n => noL_ok) (fun n v K => by kernel_rfl)
theorem Z79.q27_1_ok : ∀ n v K, Z79.q27_1.u n v K -> loopM C X0 n 43 1000027 (Z79.q27_1.s.fill v) K :=
 cut_tell hX (fn := Try.f43) (c := bodyOf Try.f43) (a := cutOf Try.f43 27) (li := liOf (C.fi 43).loops 1000027) (by kernel_rfl) (by kernel_rfl) (of_decide_eq_true rfl) (by kernel_rfl) (by kernel_rfl) (T := Z79.q27_1.s) (u := Z79.q27_1.u) (fun _ _ h => h) (call := D29) (lp := fun n => noL) (D29_ok hX) (fun n => noL_ok) (fun n v K => by kernel_rfl)
theorem Z79.l17_ok : ∀ n v K, Z79.l17.u n v K -> loopM C X0 n 43 17 (Z79.l17.s.fill v) K :=
 loop_tell hX (fn := Try.f43) (c := bodyOf Try.f43) (a := loopOf Try.f43 17) (li := liOf (C.fi 43).loops 17) (by kernel_rfl) (by kernel_rfl) (of_decide_eq_true rfl) (by kernel_rfl) (by kernel_rfl) (T := Z79.l17.s) (u := Z79.l17.u) (fun _ _ h => h) (call := D29) (lp := fun n => noL) (D29_ok hX) (fun n => noL_ok) (fun n v K => by kernel_rfl)
theorem Z79.q27_2_ok : ∀ n v K, Z79.q27_2.u n v K -> loopM C X0 n 43 1000027 (Z79.q27_2.s.fill v) K :=
 cut_tell hX (fn := Try.f43) (c := bodyOf Try.f43) (a := cutOf Try.f43 27) (li := liOf (C.fi 43).loops 1000027) (by kernel_rfl) (by kernel_rfl) (of_decide_eq_true rfl) (by kernel_rfl) (by kernel_rfl) (T := Z79.q27_2.s) (u := Z79.q27_2.u) (fun _ _ h => h) (call := D29) (lp := fun n => noL) (D29_ok hX) (fun n => noL_ok) (fun n v K => by kernel_rfl)
theorem Z79.l21_ok : ∀ n v K, Z79.l21.u n v K -> loopM C X0 n 43 21 (Z79.l21.s.fill v) K :=
 loop_tell hX (fn := Try.f43) (c := bodyOf Try.f43) (a := loopOf Try.f43 21) (li := liOf (C.fi 43).loops 21) (by kernel_rfl) (by kernel_rfl) (of_decide_eq_true rfl) (by kernel_rfl) (by kernel_rfl) (T := Z79.l21.s) (u := Z79.l21.u) (fun _ _ h => h) (call := D29) (lp := fun n => noL) (D29_ok hX) (fun n => noL_ok) (fun n v K => by kernel_rfl)
theorem Z79_ok : ∀ n v K, Z79.u n v K -> callM C X0 n 43 (fillA Z79.a v) K :=
 call_tell hX (fn := Try.f43) (c := bodyOf Try.f43) (by kernel_rfl) (by kernel_rfl) (A := Z79.a) (u := Z79.u) (fun _ _ h => h) (call := D29) (lp := fun n => orL 17 Z79.l17.s (Z79.l17.u n) (orL 21 Z79.l21.s (Z79.l21.u n) (orL 1000027 Z79.q27.s (Z79.q27.u n) (orL 1000027 Z79.q27_1.s (Z79.q27_1.u n) (orL 1000027 Z79.q27_2.s (Z79.q27_2.u n) noL))))) (D29_ok hX) (fun n => (orL_ok (Z79.l17_ok hX n) (orL_ok (Z79.l21_ok hX n) (orL_ok (Z79.q27_ok hX n) (orL_ok (Z79.q27_1_ok hX n) (orL_ok (Z79.q27_2_ok hX n) noL_ok)))))) (fun n v K => by kernel_rfl)
def D30 (n : Nat) : CallF := orC 43 Z79.a (Z79.u n) (D29 n)
theorem D30_ok : ∀ n g a K, D30 n g a K -> callM C X0 n g a K := fun n => orC_ok (Z79_ok hX n) (D29_ok hX n)
end
end Go.Vsi
end

section
set_option linter.unusedVariables false
namespace Go.Vsi
open Go.Proofs
section
variable {X0 : CallF} (hX : CallF.Mono X0)
include hX
abbrev Z78.a : List TS := [.c (.boxr 107 [.dat 5 (.int .u8), .int .i64]), .c (.o (.dat 112 Y10)), .c (.o (.int .i64))]
def Z78.u (n : Nat) (v : VA Z78.a) (K : RES -> Prop) : Prop := Z78.c n v.1.1 v.1.2.1 v.2.1 v.2.2.1 (fun r0 r1 r2 => K ⟨.c (.row ⟨30, .prod (.int .i64) Y2, r0, 1, none⟩), [[.boxr 107 [.dat 5 (.int .u8) r1, .int .i64 r2]]]⟩)
abbrev Z78.l9.s : ST := ⟨[(0, .c (.o (.pbox 0 0))), (7, .c (.o (.own 224)))], [⟨224, 30, .prod (.int .i64) Y2, 1⟩], [⟨0, 107, [.o (.dat 5 (.int .u8)), .o (.int .i64)], false⟩], [], [0]⟩
def Z78.l9.u (n : Nat) (v : Z78.l9.s.V) (K : X -> St -> Prop) : Prop := Z78.l9 n v.2.1.1 v.2.2.1.1 v.2.2.1.2.1 (fun y0 y1 y2 => K (.exit 1) ⟨[(7, .c (.own 224))], [(224, ⟨30, .prod (.int .i64) Y2, y0, 1, none⟩)], [(0, ⟨107, [.dat 5 (.int .u8) y1, .int .i64 y2], false⟩)], [], [0]⟩)
theorem Z78.l9_ok : ∀ n v K, Z78.l9.u n v K -> loopM C X0 n 33 9 (Z78.l9.s.fill v) K :=
 loop_tell hX (fn := Try.f33) (c := bodyOf Try.f33) (a := loopOf Try.f33 9) (li := liOf (C.fi 33).loops 9) (by kernel_rfl) (by kernel_rfl) (of_decide_eq_true rfl) (by kernel_rfl) (by kernel_rfl) (T := Z78.l9.s) (u := Z78.l9.u) (fun _ _ h => h) (call := D30) (lp := fun n => noL) (D30_ok hX) (fun n => noL_ok) (fun n v K => by kernel_rfl)
theorem Z78_ok : ∀ n v K, Z78.u n v K -> callM C X0 n 33 (fillA Z78.a v) K :=
 call_tell hX (fn := Try.f33) (c := bodyOf Try.f33) (by kernel_rfl) (by kernel_rfl) (A := Z78.a) (u := Z78.u) (fun _ _ h => h) (call := D30) (lp := fun n => orL 9 Z78.l9.s (Z78.l9.u n) noL) (D30_ok hX) (fun n => (orL_ok (Z78.l9_ok hX n) noL_ok)) (fun n v K => by kernel_rfl)
def D31 (n : Nat) : CallF := orC 33 Z78.a (Z78.u n) (D30 n)
theorem D31_ok : ∀ n g a K, D31 n g a K -> callM C X0 n g a K := fun n => orC_ok (Z78_ok hX n) (D30_ok hX n)
abbrev Z59.a : List TS := [.c (.o (.dat 112 Y10)), .c (.o (.dat 30 Y1))]
def Z59.u (n : Nat) (v : VA Z59.a) (K : RES -> Prop) : Prop := Z59.c n v.1 v.2.1 (fun r0 => K ⟨.c (.bool r0), []⟩)
abbrev Z59.l4.s : ST := ⟨[(0, .c (.o (.dat 112 Y10))), (1, .c (.o (.dat 30 Y1))), (5, .c (.o (.int .i64)))], [], [], [], []⟩
def Z59.l4.u (n : Nat) (v : Z59.l4.s.V) (K : X -> St -> Prop) : Prop := Z59.l4 n v.1.1 v.1.2.1 v.1.2.2.1 (K (.exit 0) ⟨[], [], [], [], []⟩) (fun y0 => K .ret ⟨[(4, .c (.bool y0))], [], [], [], []⟩)
theorem Z59.l4_ok : ∀ n v K, Z59.l4.u n v K -> loopM C X0 n 35 4 (Z59.l4.s.fill v) K :=
 loop_tell hX (fn := Try.f35) (c := bodyOf Try.f35) (a := loopOf Try.f35 4) (li := liOf (C.fi 35).loops 4) (by kernel_rfl) (by kernel_rfl) (of_decide_eq_true rfl) (by kernel_rfl) (by kernel_rfl) (T := Z59.l4.s) (u := Z59.l4.u) (fun _ _ h => h) (call := D31) (lp := fun n => noL) (D31_ok hX) (fun n => noL_ok) (fun n v K => by kernel_rfl)
theorem Z59_ok : ∀ n v K, Z59.u n v K -> callM C X0 n 35 (fillA Z59.a v) K :=
 call_tell hX (fn := Try.f35) (c := bodyOf Try.f35) (by kernel_rfl) (by kernel_rfl) (A := Z59.a) (u := Z59.u) (fun _ _ h => h) (call := D31) (lp := fun n => orL 4 Z59.l4.s (Z59.l4.u n) noL) (D31_ok hX) (fun n => (orL_ok (Z59.l4_ok hX n) noL_ok)) (fun n v K => by kernel_rfl)
def D32 (n : Nat) : CallF := orC 35 Z59.a (Z59.u n) (D31 n)
theorem D32_ok : ∀ n g a K, D32 n g a K -> callM C X0 n g a K := fun n => orC_ok (Z59_ok hX n) (D31_ok hX n)
abbrev Z70.a : List TS := [.a [.o (.int .i64), .o (.dat 90 (.int .u64))]]
def Z70.u (n : Nat) (v : VA Z70.a) (K : RES -> Prop) : Prop := Z70.c n v.1.1 v.1.2.1 (fun r0 => K ⟨.c (.row ⟨5, .int .u8, r0, 99, none⟩), []⟩)
abbrev Z70.l3.s : ST := ⟨[(1, .c (.o (.pbox 1 0))), (3, .c (.o (.own 96))), (4, .c (.o (.int .i64)))], [⟨96, 5, .int .u8, 99⟩], [⟨1, 44, [.o (.int .i64), .o (.dat 90 (.int .u64))], false⟩], [], []⟩
def Z70.l3.u (n : Nat) (v : Z70.l3.s.V) (K : X -> St -> Prop) : Prop := Z70.l3 n v.2.2.1.1 v.2.2.1.2.1 v.1.2.2.1 v.2.1.1 (fun y0 => K (.exit 0) ⟨[(3, .c (.own 96))], [(96, ⟨5, .int .u8, y0, 99, none⟩)], [], [], []⟩)
theorem Z70.l3_ok : ∀ n v K, Z70.l3.u n v K -> loopM C X0 n 73 3 (Z70.l3.s.fill v) K :=
 loop_tell hX (fn := Try.f73) (c := bodyOf Try.f73) (a := loopOf Try.f73 3) (li := liOf (C.fi 73).loops 3) (by kernel_rfl) (by kernel_rfl) (of_decide_eq_true rfl) (by kernel_rfl) (by kernel_rfl) (T := Z70.l3.s) (u := Z70.l3.u) (fun _ _ h => h) (call := D32) (lp := fun n => noL) (D32_ok hX) (fun n => noL_ok) (fun n v K => by kernel_rfl)
theorem Z70_ok : ∀ n v K, Z70.u n v K -> callM C X0 n 73 (fillA Z70.a v) K :=
 call_tell hX (fn := Try.f73) (c := bodyOf Try.f73) (by kernel_rfl) (by kernel_rfl) (A := Z70.a) (u := Z70.u) (fun _ _ h => h) (call := D32) (lp := fun n => orL 3 Z70.l3.s (Z70.l3.u n) noL) (D32_ok hX) (fun n => (orL_ok (Z70.l3_ok hX n) noL_ok)) (fun n v K => by kernel_rfl)
def D33 (n : Nat) : CallF := orC 73 Z70.a (Z70.u n) (D32 n)
theorem D33_ok : ∀ n g a K, D33 n g a K -> callM C X0 n g a K := fun n => orC_ok (Z70_ok hX n) (D32_ok hX n)
abbrev Z58.a : List TS := [.a [.o (.int .i64), .o (.dat 90 (.int .u64))], .a [.o (.int .i64), .o (.dat 90 (.int .u64))]]
def Z58.u (n : Nat) (v : VA Z58.a) (K : RES -> Prop) : Prop := Z58.c n v.1.1 v.1.2.1 v.2.1.1 v.2.1.2.1 (fun r0 r1 r2 => K ⟨.tup [.agg [.int .i64 r0, .row ⟨90, .int .u64, r1, 99, none⟩], .c (.bool r2)], []⟩)
theorem Z58_ok : ∀ n v K, Z58.u n v K -> callM C X0 n 28 (fillA Z58.a v) K :=
 call_tell hX (fn := Try.f28) (c := bodyOf Try.f28) (by kernel_rfl) (by kernel_rfl) (A := Z58.a) (u := Z58.u) (fun _ _ h => h) (call := D33) (lp := fun n => noL) (D33_ok hX) (fun n => noL_ok) (fun n v K => by kernel_rfl)
def D34 (n : Nat) : CallF := orC 28 Z58.a (Z58.u n) (D33 n)
theorem D34_ok : ∀ n g a K, D34 n g a K -> callM C X0 n g a K := fun n => orC_ok (Z58_ok hX n) (D33_ok hX n)
abbrev Z60.a : List TS := [.a [.o (.int .i64), .o (.dat 90 (.int .u64))], .c (.o (.int .i64)), .c (.o (.int .i64))]
def Z60.u (n : Nat) (v : VA Z60.a) (K : RES -> Prop) : Prop := Z60.c n v.1.1 v.1.2.1 v.2.1 v.2.2.1 (fun r0 r1 r2 => K ⟨.tup [.agg [.int .i64 r0, .row ⟨90, .int .u64, r1, 99, none⟩], .c (.bool r2)], []⟩)
theorem Z60_ok : ∀ n v K, Z60.u n v K -> callM C X0 n 113 (fillA Z60.a v) K :=
 call_tell hX (fn := Try.f113) (c := bodyOf Try.f113) (by kernel_rfl) (by kernel_rfl) (A := Z60.a) (u := Z60.u) (fun _ _ h => h) (call := D34) (lp := fun n => noL) (D34_ok hX) (fun n => noL_ok) (fun n v K => by kernel_rfl)
def D35 (n : Nat) : CallF := orC 113 Z60.a (Z60.u n) (D34 n)
theorem D35_ok : ∀ n g a K, D35 n g a K -> callM C X0 n g a K := fun n => orC_ok (Z60_ok hX n) (D34_ok hX n)
abbrev Z63.a : List TS := [.a [.o (.int .i64), .o (.dat 90 (.int .u64))], .c (.o (.int .i64)), .c (.o .bool)]
def Z63.u (n : Nat) (v : VA Z63.a) (K : RES -> Prop) : Prop := Z63.c n v.1.1 v.1.2.1 v.2.1 v.2.2.1 (fun r0 r1 r2 => K ⟨.tup [.agg [.int .i64 r0, .row ⟨90, .int .u64, r1, 99, none⟩], .c (.bool r2)], []⟩)
abbrev Z63.l8.s : ST := ⟨[(1, .c (.o (.int .i64))), (6, .c (.o (.pbox 6 0))), (8, .c (.o (.own 256))), (9, .c (.o (.int .u8))), (10, .c (.o (.int .i64)))], [⟨256, 5, .int .u8, 99⟩, ⟨1000193, 90, .int .u64, 99⟩], [⟨6, 44, [.o (.int .i64), .o (.own 1000193)], false⟩], [], []⟩
def Z63.l8.u (n : Nat) (v : Z63.l8.s.V) (K : X -> St -> Prop) : Prop := Z63.l8 n v.1.1 v.1.2.2.2.1 v.2.1.2.1 v.2.2.1.1 v.1.2.2.2.2.1 v.2.1.1 (fun y0 y1 y2 => K (.exit 0) ⟨[(6, .c (.pbox 6 0)), (8, .c (.own 256))], [(256, ⟨5, .int .u8, y0, 99, none⟩), (1000193, ⟨90, .int .u64, y1, 99, none⟩)], [(6, ⟨44, [.int .i64 y2, .own 1000193], false⟩)], [], []⟩)
theorem Z63.l8_ok : ∀ n v K, Z63.l8.u n v K -> loopM C X0 n 114 8 (Z63.l8.s.fill v) K :=
 loop_tell hX (fn := Try.f114) (c := bodyOf Try.f114) (a := loopOf Try.f114 8) (li := liOf (C.fi 114).loops 8) (by kernel_rfl) (by kernel_rfl) (of_decide_eq_true rfl) (by kernel_rfl) (by kernel_rfl) (T := Z63.l8.s) (u := Z63.l8.u) (fun _ _ h => h) (call := D35) (lp := fun n => noL) (D35_ok hX) (fun n => noL_ok) (fun n v K => by kernel_rfl)
theorem Z63_ok : ∀ n v K, Z63.u n v K -> callM C X0 n 114 (fillA Z63.a v) K :=
 call_tell hX (fn := Try.f114) (c := bodyOf Try.f114) (by kernel_rfl) (by kernel_rfl) (A := Z63.a) (u := Z63.u) (fun _ _ h => h) (call := D35) (lp := fun n => orL 8 Z63.l8.s (Z63.l8.u n) noL) (D35_ok hX) (fun n => (orL_ok (Z63.l8_ok hX n) noL_ok)) (fun n v K => by kernel_rfl)
def D36 (n : Nat) : CallF := orC 114 Z63.a (Z63.u n) (D35 n)
theorem D36_ok : ∀ n g a K, D36 n g a K -> callM C X0 n g a K := fun n => orC_ok (Z63_ok hX n) (D35_ok hX n)
abbrev Z62.a : List TS := [.a [.o (.int .i64), .o (.dat 90 (.int .u64))], .c (.o (.int .i64))]
def Z62.u (n : Nat) (v : VA Z62.a) (K : RES -> Prop) : Prop := Z62.c n v.1.1 v.1.2.1 v.2.1 (fun r0 r1 r2 => K ⟨.tup [.agg [.int .i64 r0, .row ⟨90, .int .u64, r1, 99, none⟩], .c (.bool r2)], []⟩)
abbrev Z62.l6.s : ST := ⟨[(1, .c (.o (.int .i64))), (4, .c (.o (.pbox 4 0))), (6, .c (.o (.own 608))), (7, .c (.o (.own 704))), (8, .c (.o (.int .i64)))], [⟨608, 5, .int .u8, 99⟩, ⟨704, 5, .int .u8, 99⟩, ⟨1000129, 90, .int .u64, 99⟩], [⟨4, 44, [.o (.int .i64), .o (.own 1000129)], false⟩], [], []⟩
def Z62.l6.u (n : Nat) (v : Z62.l6.s.V) (K : X -> St -> Prop) : Prop := Z62.l6 n v.1.1 v.2.1.1 v.2.1.2.2.1 v.2.2.1.1 v.1.2.2.2.2.1 v.2.1.2.1 (fun y0 y1 y2 => K (.exit 0) ⟨[(4, .c (.pbox 4 0)), (7, .c (.own 704))], [(704, ⟨5, .int .u8, y0, 99, none⟩), (1000129, ⟨90, .int .u64, y1, 99, none⟩)], [(4, ⟨44, [.int .i64 y2, .own 1000129], false⟩)], [], []⟩)
theorem Z62.l6_ok : ∀ n v K, Z62.l6.u n v K -> loopM C X0 n 115 6 (Z62.l6.s.fill v) K :=
 loop_tell hX (fn := Try.f115) (c := bodyOf Try.f115) (a := loopOf Try.f115 6) (li := liOf (C.fi 115).loops 6) (by kernel_rfl) (by kernel_rfl) (of_decide_eq_true rfl) (by kernel_rfl) (by kernel_rfl) (T := Z62.l6.s) (u := Z62.l6.u) (fun _ _ h => h) (call := D36) (lp := fun n => noL) (D36_ok hX) (fun n => noL_ok) (fun n v K => by kernel_rfl)
theorem Z62_ok : ∀ n v K, Z62.u n v K -> callM C X0 n 115 (fillA Z62.a v) K :=
 call_tell hX (fn := Try.f115) (c := bodyOf Try.f115) (by kernel_rfl) (by kernel_rfl) (A := Z62.a) (u := Z62.u) (fun _ _ h => h) (call := D36) (lp := fun n => orL 6 Z62.l6.s (Z62.l6.u n) noL) (D36_ok hX) (fun n => (orL_ok (Z62.l6_ok hX n) noL_ok)) (fun n v K => by kernel_rfl)
def D37 (n : Nat) : CallF := orC 115 Z62.a (Z62.u n) (D36 n)
theorem D37_ok : ∀ n g a K, D37 n g a K -> callM C X0 n g a K := fun n => orC_ok (Z62_ok hX n) (D36_ok hX n)
abbrev Z61.a : List TS := [.a [.o (.int .i64), .o (.dat 90 (.int .u64))], .c (.o (.int .i64))]
def Z61.u (n : Nat) (v : VA Z61.a) (K : RES -> Prop) : Prop := Z61.c n v.1.1 v.1.2.1 v.2.1 (fun r0 r1 r2 => K ⟨.tup [.agg [.int .i64 r0, .row ⟨90, .int .u64, r1, 99, none⟩], .c (.bool r2)], []⟩)
abbrev Z61.l6.s : ST := ⟨[(1, .c (.o (.int .i64))), (4, .c (.o (.pbox 4 0))), (6, .c (.o (.own 832))), (7, .c (.o (.own 224))), (8, .c (.o (.int .i64)))], [⟨224, 5, .int .u8, 99⟩, ⟨832, 5, .int .u8, 99⟩, ⟨1000129, 90, .int .u64, 99⟩], [⟨4, 44, [.o (.int .i64), .o (.own 1000129)], false⟩], [], []⟩
def Z61.l6.u (n : Nat) (v : Z61.l6.s.V) (K : X -> St -> Prop) : Prop := Z61.l6 n v.1.1 v.2.1.2.1 v.2.1.2.2.1 v.2.2.1.1 v.1.2.2.2.2.1 v.2.1.1 (fun y0 y1 y2 => K (.exit 0) ⟨[(4, .c (.pbox 4 0)), (7, .c (.own 224))], [(224, ⟨5, .int .u8, y0, 99, none⟩), (1000129, ⟨90, .int .u64, y1, 99, none⟩)], [(4, ⟨44, [.int .i64 y2, .own 1000129], false⟩)], [], []⟩)
theorem Z61.l6_ok : ∀ n v K, Z61.l6.u n v K -> loopM C X0 n 116 6 (Z61.l6.s.fill v) K :=
 loop_tell hX (fn := Try.f116) (c := bodyOf Try.f116) (a := loopOf Try.f116 6) (li := liOf (C.fi 116).loops 6) (by kernel_rfl) (by kernel_rfl) (of_decide_eq_true rfl) (by kernel_rfl) (by kernel_rfl) (T := Z61.l6.s) (u := Z61.l6.u) (fun _ _ h => h) (call := D37) (lp := fun n => noL) (D37_ok hX) (fun n => noL_ok) (fun n v K => by kernel_rfl)
theorem Z61_ok : ∀ n v K, Z61.u n v K -> callM C X0 n 116 (fillA Z61.a v) K :=
 call_tell hX (fn := Try.f116) (c := bodyOf Try.f116) (by kernel_rfl) (by kernel_rfl) (A := Z61.a) (u := Z61.u) (fun _ _ h => h) (call := D37) (lp := fun n => orL 6 Z61.l6.s (Z61.l6.u n) noL) (D37_ok hX) (fun n => (orL_ok (Z61.l6_ok hX n) noL_ok)) (fun n v K => by kernel_rfl)
def D38 (n : Nat) : CallF := orC 116 Z61.a (Z61.u n) (D37 n)
theorem D38_ok : ∀ n g a K, D38 n g a K -> callM C X0 n g a K := fun n => orC_ok (Z61_ok hX n) (D37_ok hX n)
abbrev Z100.a : List TS := [.c (.o (.dat 44 Y7)), .a [.o (.int .i64), .o (.int .i64), .o (.int .i64), .o (.int .i64), .o (.int .i64), .o (.dat 90 (.int .u64)), .o (.dat 2 (.int .i64))], .c (.o (.dat 44 Y7))]
def Z100.u (n : Nat) (v : VA Z100.a) (K : RES -> Prop) : Prop := Z100.c n v.1 v.2.1.1 v.2.1.2.1 v.2.1.2.2.1 v.2.1.2.2.2.1 v.2.1.2.2.2.2.1 v.2.1.2.2.2.2.2.1 v.2.1.2.2.2.2.2.2.1 v.2.2.1 (fun r0 r1 => K ⟨.agg [.int .i64 r0, .dat 90 (.int .u64) r1], []⟩)
abbrev Z100.l10.s : ST := ⟨[(2, .c (.o (.dat 44 Y7))), (6, .c (.o (.pbox 6 0))), (7, .c (.o (.pbox 7 0))), (8, .c (.o (.int .i64)))], [⟨1000193, 90, .int .u64, 99⟩], [⟨6, 44, [.o (.int .i64), .o (.own 1000193)], false⟩, ⟨7, 44, [.o (.int .i64), .o (.dat 90 (.int .u64))], false⟩], [], []⟩
def Z100.l10.u (n : Nat) (v : Z100.l10.s.V) (K : X -> St -> Prop) : Prop := Z100.l10 n v.1.1 v.2.1.1 v.2.2.1.1 v.1.2.2.2.1 v.2.2.2.1.1 v.2.2.2.1.2.1 (fun y0 y1 y2 y3 => K (.exit 1) ⟨[(6, .c (.pbox 6 0)), (7, .c (.pbox 7 0))], [(1000193, ⟨90, .int .u64, y0, 99, none⟩)], [(6, ⟨44, [.int .i64 y1, .own 1000193], false⟩), (7, ⟨44, [.int .i64 y2, .dat 90 (.int .u64) y3], false⟩)], [], []⟩)
theorem Z100.l10_ok : ∀ n v K, Z100.l10.u n v K -> loopM C X0 n 85 10 (Z100.l10.s.fill v) K :=
 loop_tell hX (fn := Try.f85) (c := bodyOf Try.f85) (a := loopOf Try.f85 10) (li := liOf (C.fi 85).loops 10) (by kernel_rfl) (by kernel_rfl) (of_decide_eq_true rfl) (by kernel_rfl) (by kernel_rfl) (T := Z100.l10.s) (u := Z100.l10.u) (fun _ _ h => h) (call := D38) (lp := fun n => noL) (D38_ok hX) (fun n => noL_ok) (fun n v K => by kernel_rfl)
theorem Z100_ok : ∀ n v K, Z100.u n v K -> callM C X0 n 85 (fillA Z100.a v) K :=
 call_tell hX (fn := Try.f85) (c := bodyOf Try.f85) (by kernel_rfl) (by kernel_rfl) (A := Z100.a) (u := Z100.u) (fun _ _ h => h) (call := D38) (lp := fun n => orL 10 Z100.l10.s (Z100.l10.u n) noL) (D38_ok hX) (fun n => (orL_ok (Z100.l10_ok hX n) noL_ok)) (fun n v K => by kernel_rfl)
def D39 (n : Nat) : CallF := orC 85 Z100.a (Z100.u n) (D38 n)
theorem D39_ok : ∀ n g a K, D39 n g a K -> callM C X0 n g a K := fun n => orC_ok (Z100_ok hX n) (D38_ok hX n)
abbrev Z98.a : List TS := [.c (.o (.dat 44 Y7)), .a [.o (.dat 79 Y3)]]
def Z98.u (n : Nat) (v : VA Z98.a) (K : RES -> Prop) : Prop := Z98.c n v.1 v.2.1.1 (fun r0 r1 => K ⟨.agg [.int .i64 r0, .row ⟨90, .int .u64, r1, 99, none⟩], []⟩)
abbrev Z98.l7.s : ST := ⟨[(0, .c (.o (.dat 44 Y7))), (3, .c (.o (.pbox 3 0))), (4, .c (.o (.pbox 4 0))), (5, .c (.o (.own 160))), (6, .c (.o (.int .i64))), (7, .c (.o (.own 224))), (8, .c (.o (.int .i64)))], [⟨160, 44, .prod (.int .i64) (.sl 90 (.int .u64)), 1⟩, ⟨224, 44, .prod (.int .i64) (.sl 90 (.int .u64)), 1⟩, ⟨1000129, 90, .int .u64, 99⟩], [⟨3, 28, [.o (.dat 79 Y3)], false⟩, ⟨4, 44, [.o (.int .i64), .o (.own 1000129)], false⟩], [], []⟩
def Z98.l7.u (n : Nat) (v : Z98.l7.s.V) (K : X -> St -> Prop) : Prop := Z98.l7 n v.1.1 v.1.2.2.2.2.1 v.2.1.1 v.2.1.2.2.1 v.2.2.1.1 v.2.2.2.1.1 v.1.2.2.2.2.2.2.1 v.2.1.2.1 (fun y0 y1 y2 y3 y4 y5 y6 => K (.exit 2) ⟨[(0, .c (.dat 44 Y7 y0)), (3, .c (.pbox 3 0)), (4, .c (.pbox 4 0)), (5, .c (.own 160)), (6, .c (.int .i64 y1)), (7, .c (.own 224))], [(160, ⟨44, .prod (.int .i64) (.sl 90 (.int .u64)), y2, 1, none⟩), (224, ⟨44, .prod (.int .i64) (.sl 90 (.int .u64)), y3, 1, none⟩), (1000129, ⟨90, .int .u64, y4, 99, none⟩)], [(3, ⟨28, [.dat 79 Y3 y5], false⟩), (4, ⟨44, [.int .i64 y6, .own 1000129], false⟩)], [], []⟩)
abbrev Z98.l3.s : ST := ⟨[(0, .c (.o (.dat 44 Y7))), (3, .c (.o (.pbox 3 0))), (4, .c (.o (.pbox 4 0))), (5, .c (.o (.own 160))), (6, .c (.o (.int .i64)))], [⟨160, 44, .prod (.int .i64) (.sl 90 (.int .u64)), 1⟩, ⟨1000129, 90, .int .u64, 99⟩], [⟨3, 28, [.o (.dat 79 Y3)], false⟩, ⟨4, 44, [.o (.int .i64), .o (.own 1000129)], false⟩], [], []⟩
def Z98.l3.u (n : Nat) (v : Z98.l3.s.V) (K : X -> St -> Prop) : Prop := Z98.l3 n v.1.1 v.1.2.2.2.2.1 v.2.1.1 v.2.1.2.1 v.2.2.1.1 v.2.2.2.1.1 (fun y0 y1 y2 => K (.exit 0) ⟨[(4, .c (.pbox 4 0)), (5, .c (.own 160))], [(160, ⟨44, .prod (.int .i64) (.sl 90 (.int .u64)), y0, 1, none⟩), (1000129, ⟨90, .int .u64, y1, 99, none⟩)], [(4, ⟨44, [.int .i64 y2, .own 1000129], false⟩)], [], []⟩)
theorem Z98.l7_ok : ∀ n v K, Z98.l7.u n v K -> loopM C X0 n 37 7 (Z98.l7.s.fill v) K :=
 loop_tell hX (fn := Try.f37) (c := bodyOf Try.f37) (a := loopOf Try.f37 7) (li := liOf (C.fi 37).loops 7) (by kernel_rfl) (by kernel_rfl) (of_decide_eq_true rfl) (by kernel_rfl) (by kernel_rfl) (T := Z98.l7.s) (u := Z98.l7.u) (fun _ _ h => h) (call := D39) (lp := fun n => noL) (D39_ok hX) (fun n => noL_ok) (fun n v K => by kernel_rfl)
theorem Z98.l3_ok : ∀ n v K, Z98.l3.u n v K -> loopM C X0 n 37 3 (Z98.l3.s.fill v) K :=
 loop_tell hX (fn := Try.f37) (c := bodyOf Try.f37) (a := loopOf Try.f37 3) (li := liOf (C.fi 37).loops 3) (by kernel_rfl) (by kernel_rfl) (of_decide_eq_true rfl) (by kernel_rfl) (by kernel_rfl) (T := Z98.l3.s) (u := Z98.l3.u) (fun _ _ h => h) (call := D39) (lp := fun n => orL 7 Z98.l7.s (Z98.l7.u n) noL) (D39_ok hX) (fun n => (orL_ok (Z98.l7_ok hX n) noL_ok)) (fun n v K => by kernel_rfl)
theorem Z98_ok : ∀ n v K, Z98.u n v K -> callM C X0 n 37 (fillA Z98.a v) K :=
 call_tell hX (fn := Try.f37) (c := bodyOf Try.f37) (by kernel_rfl) (by kernel_rfl) (A := Z98.a) (u := Z98.u) (fun _ _ h => h) (call := D39) (lp := fun n => orL 3 Z98.l3.s (Z98.l3.u n) noL) (D39_ok hX) (fun n => (orL_ok (Z98.l3_ok hX n) noL_ok)) (fun n v K => by kernel_rfl)
def D40 (n : Nat) : CallF := orC 37 Z98.a (Z98.u n) (D39 n)
theorem D40_ok : ∀ n g a K, D40 n g a K -> callM C X0 n g a K := fun n => orC_ok (Z98_ok hX n) (D39_ok hX n)
abbrev Z95.a : List TS := [.a [.o (.int .i64), .o (.dat 90 (.int .u64))], .a [.o (.int .i64), .o (.dat 90 (.int .u64))]]
def Z95.u (n : Nat) (v : VA Z95.a) (K : RES -> Prop) : Prop := Z95.c n v.1.1 v.1.2.1 v.2.1.1 v.2.1.2.1 (fun r0 => K ⟨.c (.bool r0), []⟩)
abbrev Z95.l4.s : ST := ⟨[(2, .c (.o (.pbox 2 0))), (3, .c (.o (.pbox 3 0))), (5, .c (.o (.int .i64)))], [], [⟨2, 44, [.o (.int .i64), .o (.dat 90 (.int .u64))], false⟩, ⟨3, 44, [.o (.int .i64), .o (.dat 90 (.int .u64))], false⟩], [], []⟩
def Z95.l4.u (n : Nat) (v : Z95.l4.s.V) (K : X -> St -> Prop) : Prop := Z95.l4 n v.2.2.1.1 v.2.2.1.2.1 v.2.2.2.1.1 v.2.2.2.1.2.1 v.1.2.2.1 (K (.exit 0) ⟨[], [], [], [], []⟩) (fun y0 => K .ret ⟨[(4, .c (.bool y0))], [], [], [], []⟩)
theorem Z95.l4_ok : ∀ n v K, Z95.l4.u n v K -> loopM C X0 n 36 4 (Z95.l4.s.fill v) K :=
 loop_tell hX (fn := Try.f36) (c := bodyOf Try.f36) (a := loopOf Try.f36 4) (li := liOf (C.fi 36).loops 4) (by kernel_rfl) (by kernel_rfl) (of_decide_eq_true rfl) (by kernel_rfl) (by kernel_rfl) (T := Z95.l4.s) (u := Z95.l4.u) (fun _ _ h => h) (call := D40) (lp := fun n => noL) (D40_ok hX) (fun n => noL_ok) (fun n v K => by kernel_rfl)
theorem Z95_ok : ∀ n v K, Z95.u n v K -> callM C X0 n 36 (fillA Z95.a v) K :=
 call_tell hX (fn := Try.f36) (c := bodyOf Try.f36) (by kernel_rfl) (by kernel_rfl) (A := Z95.a) (u := Z95.u) (fun _ _ h => h) (call := D40) (lp := fun n => orL 4 Z95.l4.s (Z95.l4.u n) noL) (D40_ok hX) (fun n => (orL_ok (Z95.l4_ok hX n) noL_ok)) (fun n v K => by kernel_rfl)
def D41 (n : Nat) : CallF := orC 36 Z95.a (Z95.u n) (D40 n)
theorem D41_ok : ∀ n g a K, D41 n g a K -> callM C X0 n g a K := fun n => orC_ok (Z95_ok hX n) (D40_ok hX n)
abbrev Z34.a : List TS := [.c (.o .str)]
def Z34.u (n : Nat) (v : VA Z34.a) (K : RES -> Prop) : Prop := Z34.c n v.1 (fun r0 => K ⟨.c (.bool r0), []⟩)
abbrev Z34.l4.s : ST := ⟨[(0, .c (.o .str)), (3, .c (.o (.int .i64)))], [], [], [], []⟩
def Z34.l4.u (n : Nat) (v : Z34.l4.s.V) (K : X -> St -> Prop) : Prop := Z34.l4 n v.1.1 v.1.2.1 (K (.exit 0) ⟨[], [], [], [], []⟩) (fun y0 => K .ret ⟨[(2, .c (.bool y0))], [], [], [], []⟩)
theorem Z34.l4_ok : ∀ n v K, Z34.l4.u n v K -> loopM C X0 n 99 4 (Z34.l4.s.fill v) K :=
 loop_tell hX (fn := Try.f99) (c := bodyOf Try.f99) (a := loopOf Try.f99 4) (li := liOf (C.fi 99).loops 4) (by kernel_rfl) (by kernel_rfl) (of_decide_eq_true rfl) (by kernel_rfl) (by kernel_rfl) (T := Z34.l4.s) (u := Z34.l4.u) (fun _ _ h => h) (call := D41) (lp := fun n => noL) (D41_ok hX) (fun n => noL_ok) (fun n v K => by kernel_rfl)
theorem Z34_ok : ∀ n v K, Z34.u n v K -> callM C X0 n 99 (fillA Z34.a v) K :=
 call_tell hX (fn := Try.f99) (c := bodyOf Try.f99) (by kernel_rfl) (by kernel_rfl) (A := Z34.a) (u := Z34.u) (fun _ _ h => h) (call := D41) (lp := fun n => orL 4 Z34.l4.s (Z34.l4.u n) noL) (D41_ok hX) (fun n => (orL_ok (Z34.l4_ok hX n) noL_ok)) (fun n v K => by kernel_rfl)
def D42 (n : Nat) : CallF := orC 99 Z34.a (Z34.u n) (D41 n)
theorem D42_ok : ∀ n g a K, D42 n g a K -> callM C X0 n g a K := fun n => orC_ok (Z34_ok hX n) (D41_ok hX n)
abbrev Z29.a : List TS := [.c (.o (.int .i64)), .c (.o (.int .i64)), .c (.o (.int .i64))]
def Z29.u (n : Nat) (v : VA Z29.a) (K : RES -> Prop) : Prop := Z29.c n v.1 v.2.1 v.2.2.1 (fun r0 => K ⟨.c (.bool r0), []⟩)
theorem Z29_ok : ∀ n v K, Z29.u n v K -> callM C X0 n 87 (fillA Z29.a v) K :=
 call_tell hX (fn := Try.f87) (c := bodyOf Try.f87) (by kernel_rfl) (by kernel_rfl) (A := Z29.a) (u := Z29.u) (fun _ _ h => h) (call := D42) (lp := fun n => noL) (D42_ok hX) (fun n => noL_ok) (fun n v K => by kernel_rfl)
def D43 (n : Nat) : CallF := orC 87 Z29.a (Z29.u n) (D42 n)
theorem D43_ok : ∀ n g a K, D43 n g a K -> callM C X0 n g a K := fun n => orC_ok (Z29_ok hX n) (D42_ok hX n)
abbrev Z27.a : List TS := [.a [.o .str, .o (.int .i64)], .c (.o (.pdat 9 .str 0))]
def Z27.u (n : Nat) (v : VA Z27.a) (K : RES -> Prop) : Prop := Z27.c n v.1.1 v.1.2.1 v.2.1 (fun r0 => K ⟨.c (.bool r0), []⟩)
theorem Z27_ok : ∀ n v K, Z27.u n v K -> callM C X0 n 136 (fillA Z27.a v) K :=
 call_tell hX (fn := Try.f136) (c := bodyOf Try.f136) (by kernel_rfl) (by kernel_rfl) (A := Z27.a) (u := Z27.u) (fun _ _ h => h) (call := D43) (lp := fun n => noL) (D43_ok hX) (fun n => noL_ok) (fun n v K => by kernel_rfl)
def D44 (n : Nat) : CallF := orC 136 Z27.a (Z27.u n) (D43 n)
theorem D44_ok : ∀ n g a K, D44 n g a K -> callM C X0 n g a K := fun n => orC_ok (Z27_ok hX n) (D43_ok hX n)
abbrev Z48.a : List TS := [.c (.o (.dat 112 Y10)), .c (.fn 136 [(false, 1)] 0 [.pdat 9 .str 0])]
def Z48.u (n : Nat) (v : VA Z48.a) (K : RES -> Prop) : Prop := Z48.c n v.1 v.2.1.1 (fun r0 => K ⟨.c (.int .i64 r0), []⟩)
abbrev Z48.l2.s : ST := ⟨[(0, .c (.o (.dat 112 Y10))), (1, .c (.fn 136 [(false, 1)] 0 [.pdat 9 .str 0])), (7, .c (.o (.int .i64))), (8, .c (.o (.int .i64)))], [], [], [], []⟩
def Z48.l2.u (n : Nat) (v : Z48.l2.s.V) (K : X -> St -> Prop) : Prop := Z48.l2 n v.1.1 v.1.2.1.1 v.1.2.2.1 v.1.2.2.2.1 (K (.exit 0) ⟨[], [], [], [], []⟩) (fun y0 => K .ret ⟨[(4, .c (.int .i64 y0))], [], [], [], []⟩)
theorem Z48.l2_ok : ∀ n v K, Z48.l2.u n v K -> loopM C X0 n 135 2 (Z48.l2.s.fill v) K :=
 loop_tell hX (fn := Try.f135) (c := bodyOf Try.f135) (a := loopOf Try.f135 2) (li := liOf (C.fi 135).loops 2) (by kernel_rfl) (by kernel_rfl) (of_decide_eq_true rfl) (by kernel_rfl) (by kernel_rfl) (T := Z48.l2.s) (u := Z48.l2.u) (fun _ _ h => h) (call := D44) (lp := fun n => noL) (D44_ok hX) (fun n => noL_ok) (fun n v K => by kernel_rfl)
theorem Z48_ok : ∀ n v K, Z48.u n v K -> callM C X0 n 135 (fillA Z48.a v) K :=
 call_tell hX (fn := Try.f135) (c := bodyOf Try.f135) (by kernel_rfl) (by kernel_rfl) (A := Z48.a) (u := Z48.u) (fun _ _ h => h) (call := D44) (lp := fun n => orL 2 Z48.l2.s (Z48.l2.u n) noL) (D44_ok hX) (fun n => (orL_ok (Z48.l2_ok hX n) noL_ok)) (fun n v K => by kernel_rfl)
def D45 (n : Nat) : CallF := orC 135 Z48.a (Z48.u n) (D44 n)
theorem D45_ok : ∀ n g a K, D45 n g a K -> callM C X0 n g a K := fun n => orC_ok (Z48_ok hX n) (D44_ok hX n)
abbrev Z26.a : List TS := [.c (.o (.dat 112 Y10)), .c (.o .str)]
def Z26.u (n : Nat) (v : VA Z26.a) (K : RES -> Prop) : Prop := Z26.c n v.1 v.2.1 (fun r0 => K ⟨.c (.int .i64 r0), []⟩)
theorem Z26_ok : ∀ n v K, Z26.u n v K -> callM C X0 n 100 (fillA Z26.a v) K :=
 call_tell hX (fn := Try.f100) (c := bodyOf Try.f100) (by kernel_rfl) (by kernel_rfl) (A := Z26.a) (u := Z26.u) (fun _ _ h => h) (call := D45) (lp := fun n => noL) (D45_ok hX) (fun n => noL_ok) (fun n v K => by kernel_rfl)
def D46 (n : Nat) : CallF := orC 100 Z26.a (Z26.u n) (D45 n)
theorem D46_ok : ∀ n g a K, D46 n g a K -> callM C X0 n g a K := fun n => orC_ok (Z26_ok hX n) (D45_ok hX n)
abbrev Z13.a : List TS := [.c (.o (.dat 112 Y10))]
def Z13.u (n : Nat) (v : VA Z13.a) (K : RES -> Prop) : Prop := Z13.c n v.1 (fun r0 => K ⟨.c (.bool r0), []⟩)
abbrev Z13.l5.s : ST := ⟨[(0, .c (.o (.dat 112 Y10))), (3, .c (.o (.int .i64))), (9, .c (.o (.dat 112 Y10))), (10, .c (.o (.int .i64))), (11, .c (.o (.int .i64)))], [], [], [], []⟩
def Z13.l5.u (n : Nat) (v : Z13.l5.s.V) (K : X -> St -> Prop) : Prop := Z13.l5 n v.1.1 v.1.2.2.1 v.1.2.2.2.1 v.1.2.1 v.1.2.2.2.2.1 (fun y0 => K (.exit 0) ⟨[(3, .c (.int .i64 y0))], [], [], [], []⟩) (fun y0 => K .ret ⟨[(2, .c (.bool y0))], [], [], [], []⟩)
theorem Z13.l5_ok : ∀ n v K, Z13.l5.u n v K -> loopM C X0 n 56 5 (Z13.l5.s.fill v) K :=
 loop_tell hX (fn := Try.f56) (c := bodyOf Try.f56) (a := loopOf Try.f56 5) (li := liOf (C.fi 56).loops 5) (by kernel_rfl) (by kernel_rfl) (of_decide_eq_true rfl) (by kernel_rfl) (by kernel_rfl) (T := Z13.l5.s) (u := Z13.l5.u) (fun _ _ h => h) (call := D46) (lp := fun n => noL) (D46_ok hX) (fun n => noL_ok) (fun n v K => by kernel_rfl)
theorem Z13_ok : ∀ n v K, Z13.u n v K -> callM C X0 n 56 (fillA Z13.a v) K :=
 call_tell hX (fn := Try.f56) (c := bodyOf Try.f56) (by kernel_rfl) (by kernel_rfl) (A := Z13.a) (u := Z13.u) (fun _ _ h => h) (call := D46) (lp := fun n => orL 5 Z13.l5.s (Z13.l5.u n) noL) (D46_ok hX) (fun n => (orL_ok (Z13.l5_ok hX n) noL_ok)) (fun n v K => by kernel_rfl)
def D47 (n : Nat) : CallF := orC 56 Z13.a (Z13.u n) (D46 n)
theorem D47_ok : ∀ n g a K, D47 n g a K -> callM C X0 n g a K := fun n => orC_ok (Z13_ok hX n) (D46_ok hX n)
abbrev Z40.a : List TS := [.c (.o (.int .i64))]
def Z40.u (n : Nat) (v : VA Z40.a) (K : RES -> Prop) : Prop := Z40.c n v.1 (fun r0 => K ⟨.c (.int .i64 r0), []⟩)
theorem Z40_ok : ∀ n v K, Z40.u n v K -> callM C X0 n 98 (fillA Z40.a v) K :=
 call_tell hX (fn := Try.f98) (c := bodyOf Try.f98) (by kernel_rfl) (by kernel_rfl) (A := Z40.a) (u := Z40.u) (fun _ _ h => h) (call := D47) (lp := fun n => noL) (D47_ok hX) (fun n => noL_ok) (fun n v K => by kernel_rfl)
def D48 (n : Nat) : CallF := orC 98 Z40.a (Z40.u n) (D47 n)
theorem D48_ok : ∀ n g a K, D48 n g a K -> callM C X0 n g a K := fun n => orC_ok (Z40_ok hX n) (D47_ok hX n)
abbrev Z1.a : List TS := [.a [.o (.int .i64), .o (.dat 90 (.int .u64))]]
def Z1.u (n : Nat) (v : VA Z1.a) (K : RES -> Prop) : Prop := Z1.c n v.1.1 v.1.2.1 (fun r0 => K ⟨.c (.bool r0), []⟩)
theorem Z1_ok : ∀ n v K, Z1.u n v K -> callM C X0 n 117 (fillA Z1.a v) K :=
 call_tell hX (fn := Try.f117) (c := bodyOf Try.f117) (by kernel_rfl) (by kernel_rfl) (A := Z1.a) (u := Z1.u) (fun _ _ h => h) (call := D48) (lp := fun n => noL) (D48_ok hX) (fun n => noL_ok) (fun n v K => by kernel_rfl)
def D49 (n : Nat) : CallF := orC 117 Z1.a (Z1.u n) (D48 n)
theorem D49_ok : ∀ n g a K, D49 n g a K -> callM C X0 n g a K := fun n => orC_ok (Z1_ok hX n) (D48_ok hX n)
abbrev Z37.a : List TS := [.c (.o (.dat 112 Y10)), .c (.o (.dat 44 Y7))]
def Z37.u (n : Nat) (v : VA Z37.a) (K : RES -> Prop) : Prop := Z37.c n v.1 v.2.1 (fun r0 => K ⟨.c (.bool r0), []⟩)
abbrev Z37.l4.s : ST := ⟨[(0, .c (.o (.dat 112 Y10))), (12, .c (.o (.dat 44 Y7))), (13, .c (.o (.int .i64))), (14, .c (.o (.int .i64)))], [], [], [], []⟩
def Z37.l4.u (n : Nat) (v : Z37.l4.s.V) (K : X -> St -> Prop) : Prop := Z37.l4 n v.1.1 v.1.2.1 v.1.2.2.1 v.1.2.2.2.1 (K (.exit 0) ⟨[], [], [], [], []⟩) (fun y0 => K .ret ⟨[(4, .c (.bool y0))], [], [], [], []⟩)
theorem Z37.l4_ok : ∀ n v K, Z37.l4.u n v K -> loopM C X0 n 86 4 (Z37.l4.s.fill v) K :=
 loop_tell hX (fn := Try.f86) (c := bodyOf Try.f86) (a := loopOf Try.f86 4) (li := liOf (C.fi 86).loops 4) (by kernel_rfl) (by kernel_rfl) (of_decide_eq_true rfl) (by kernel_rfl) (by kernel_rfl) (T := Z37.l4.s) (u := Z37.l4.u) (fun _ _ h => h) (call := D49) (lp := fun n => noL) (D49_ok hX) (fun n => noL_ok) (fun n v K => by kernel_rfl)
theorem Z37_ok : ∀ n v K, Z37.u n v K -> callM C X0 n 86 (fillA Z37.a v) K :=
 call_tell hX (fn := Try.f86) (c := bodyOf Try.f86) (by kernel_rfl) (by kernel_rfl) (A := Z37.a) (u := Z37.u) (fun _ _ h => h) (call := D49) (lp := fun n => orL 4 Z37.l4.s (Z37.l4.u n) noL) (D49_ok hX) (fun n => (orL_ok (Z37.l4_ok hX n) noL_ok)) (fun n v K => by kernel_rfl)
def D50 (n : Nat) : CallF := orC 86 Z37.a (Z37.u n) (D49 n)
theorem D50_ok : ∀ n g a K, D50 n g a K -> callM C X0 n g a K := fun n => orC_ok (Z37_ok hX n) (D49_ok hX n)
abbrev Z23.a : List TS := [.c (.o (.dat 112 Y10)), .c (.o (.dat 44 Y7))]
def Z23.u (n : Nat) (v : VA Z23.a) (K : RES -> Prop) : Prop := Z23.c n v.1 v.2.1 (fun r0 => K ⟨.c (.bool r0), []⟩)
theorem Z23_ok : ∀ n v K, Z23.u n v K -> callM C X0 n 38 (fillA Z23.a v) K :=
 call_tell hX (fn := Try.f38) (c := bodyOf Try.f38) (by kernel_rfl) (by kernel_rfl) (A := Z23.a) (u := Z23.u) (fun _ _ h => h) (call := D50) (lp := fun n => noL) (D50_ok hX) (fun n => noL_ok) (fun n v K => by kernel_rfl)
def D51 (n : Nat) : CallF := orC 38 Z23.a (Z23.u n) (D50 n)
theorem D51_ok : ∀ n g a K, D51 n g a K -> callM C X0 n g a K := fun n => orC_ok (Z23_ok hX n) (D50_ok hX n)
abbrev Z22.a : List TS := [.c (.o (.pdat 79 Y3 0)), .c (.o (.dat 112 Y10)), .c (.o (.dat 2 (.int .i64)))]
def Z22.u (n : Nat) (v : VA Z22.a) (K : RES -> Prop) : Prop := Z22.c n v.1 v.2.1 v.2.2.1 (fun r0 => K ⟨.c (.int .i64 r0), []⟩)
abbrev Z22.l11.s : ST := ⟨[(8, .c (.o (.int .i64))), (80, .c (.o (.dat 2 (.int .i64)))), (81, .c (.o (.int .i64))), (82, .c (.o (.int .i64)))], [], [], [], []⟩
def Z22.l11.u (n : Nat) (v : Z22.l11.s.V) (K : X -> St -> Prop) : Prop := Z22.l11 n v.1.2.1 v.1.2.2.1 v.1.1 v.1.2.2.2.1 (fun y0 => K (.exit 1) ⟨[(8, .c (.int .i64 y0))], [], [], [], []⟩)
abbrev Z22.q21.s : ST := ⟨[(0, .c (.o (.pdat 79 Y3 0))), (7, .c (.o (.int .i64))), (137, .c (.o .bool))], [], [], [], []⟩
def Z22.q21.u (n : Nat) (v : Z22.q21.s.V) (K : X -> St -> Prop) : Prop := Z22.q21 n v.1.1 v.1.2.1 v.1.2.2.1 (fun y0 => K .ret ⟨[(6, .c (.int .i64 y0))], [], [], [], []⟩) (K .normal ⟨[], [], [], [], []⟩)
abbrev Z22.q9.s : ST := ⟨[(0, .c (.o (.pdat 79 Y3 0))), (2, .c (.o (.dat 2 (.int .i64)))), (7, .c (.o (.int .i64))), (69, .c (.o .bool))], [], [], [], []⟩
def Z22.q9.u (n : Nat) (v : Z22.q9.s.V) (K : X -> St -> Prop) : Prop := Z22.q9 n v.1.1 v.1.2.1 v.1.2.2.1 v.1.2.2.2.1 (fun y0 => K .ret ⟨[(6, .c (.int .i64 y0))], [], [], [], []⟩) (K .normal ⟨[], [], [], [], []⟩)
abbrev Z22.q5.s : ST := ⟨[(0, .c (.o (.pdat 79 Y3 0))), (1, .c (.o (.dat 112 Y10))), (2, .c (.o (.dat 2 (.int .i64)))), (7, .c (.o (.int .i64))), (17, .c (.o .bool))], [], [], [], []⟩
def Z22.q5.u (n : Nat) (v : Z22.q5.s.V) (K : X -> St -> Prop) : Prop := Z22.q5 n v.1.1 v.1.2.1 v.1.2.2.1 v.1.2.2.2.1 v.1.2.2.2.2.1 (fun y0 => K .ret ⟨[(6, .c (.int .i64 y0))], [], [], [], []⟩) (K .normal ⟨[], [], [], [], []⟩)
theorem Z22.l11_ok : ∀ n v K, Z22.l11.u n v K -> loopM C X0 n 127 11 (Z22.l11.s.fill v) K :=
 loop_tell hX (fn := Try.f127) (c := bodyOf Try.f127) (a := loopOf Try.f127 11) (li := liOf (C.fi 127).loops 11) (by kernel_rfl) (by kernel_rfl) (of_decide_eq_true rfl) (by kernel_rfl) (by kernel_rfl) (T := Z22.l11.s) (u := Z22.l11.u) (fun _ _ h => h) (call := D51) (lp := fun n => noL) (D51_ok hX) (fun n => noL_ok) (fun n v K => by kernel_rfl)
theorem Z22.q21_ok : ∀ n v K, Z22.q21.u n v K -> loopM C X0 n 127 1000021 (Z22.q21.s.fill v) K :=
 cut_tell hX (fn := Try.f127) (c := bodyOf Try.f127) (a := cutOf Try.f127 21) (li := liOf (C.fi 127).loops 1000021) (by kernel_rfl) (by kernel_rfl) (of_decide_eq_true rfl) (by kernel_rfl) (by kernel_rfl) (T := Z22.q21.s) (u := Z22.q21.u) (fun _ _ h => h) (call := D51) (lp := fun n => noL) (D51_ok hX) (fun n => noL_ok) (fun n v K => by kernel_rfl)
theorem Z22.q9_ok : ∀ n v K, Z22.q9.u n v K -> loopM C X0 n 127 1000009 (Z22.q9.s.fill v) K :=
 cut_tell hX (fn := Try.f127) (c := bodyOf Try.f127) (a := cutOf Try.f127 9) (li := liOf (C.fi 127).loops 1000009) (by kernel_rfl) (by kernel_rfl) (of_decide_eq_true rfl) (by kernel_rfl) (by kernel_rfl) (T := Z22.q9.s) (u := Z22.q9.u) (fun _ _ h => h) (call := D51) (lp := fun n => orL 11 Z22.l11.s (Z22.l11.u n) (orL 1000021 Z22.q21.s (Z22.q21.u n) noL)) (D51_ok hX) (fun n => (orL_ok (Z22.l11_ok hX n) (orL_ok (Z22.q21_ok hX n) noL_ok))) (fun n v K => by kernel_rfl)
theorem Z22.q5_ok : ∀ n v K, Z22.q5.u n v K -> loopM C X0 n 127 1000005 (Z22.q5.s.fill v) K :=
 cut_tell hX (fn := Try.f127) (c := bodyOf Try.f127) (a := cutOf Try.f127 5) (li := liOf (C.fi 127).loops 1000005) (by kernel_rfl) (by kernel_rfl) (of_decide_eq_true rfl) (by kernel_rfl) (by kernel_rfl) (T := Z22.q5.s) (u := Z22.q5.u) (fun _ _ h => h) (call := D51) (lp := fun n => orL 1000009 Z22.q9.s (Z22.q9.u n) noL) (D51_ok hX) (fun n => (orL_ok (Z22.q9_ok hX n) noL_ok)) (fun n v K => by kernel_rfl)
theorem Z22_ok : ∀ n v K, Z22.u n v K -> callM C X0 n 127 (fillA Z22.a v) K :=
 call_tell hX (fn := Try.f127) (c := bodyOf Try.f127) (by kernel_rfl) (by kernel_rfl) (A := Z22.a) (u := Z22.u) (fun _ _ h => h) (call := D51) (lp := fun n => orL 1000005 Z22.q5.s (Z22.q5.u n) noL) (D51_ok hX) (fun n => (orL_ok (Z22.q5_ok hX n) noL_ok)) (fun n v K => by kernel_rfl)
def D52 (n : Nat) : CallF := orC 127 Z22.a (Z22.u n) (D51 n)
theorem D52_ok : ∀ n g a K, D52 n g a K -> callM C X0 n g a K := fun n => orC_ok (Z22_ok hX n) (D51_ok hX n)
abbrev Z21.a : List TS := [.c (.o (.pdat 79 Y3 0))]
def Z21.u (n : Nat) (v : VA Z21.a) (K : RES -> Prop) : Prop := Z21.c n v.1 (fun r0 => K ⟨.c (.bool r0), []⟩)
abbrev Z21.q3.s : ST := ⟨[(0, .c (.o (.pdat 79 Y3 0))), (52, .c (.o .bool))], [], [], [], []⟩
def Z21.q3.u (n : Nat) (v : Z21.q3.s.V) (K : X -> St -> Prop) : Prop := Z21.q3 n v.1.1 v.1.2.1 (fun y0 => K .ret ⟨[(2, .c (.bool y0))], [], [], [], []⟩) (fun y0 => K .normal ⟨[(0, .c (.pdat 79 Y3 y0 0))], [], [], [], []⟩)
abbrev Z21.q2.s : ST := ⟨[(0, .c (.o (.pdat 79 Y3 0))), (3, .c (.o .bool))], [], [], [], []⟩
def Z21.q2.u (n : Nat) (v : Z21.q2.s.V) (K : X -> St -> Prop) : Prop := Z21.q2 n v.1.1 v.1.2.1 (fun y0 => K .ret ⟨[(2, .c (.bool y0))], [], [], [], []⟩)
theorem Z21.q3_ok : ∀ n v K, Z21.q3.u n v K -> loopM C X0 n 128 1000003 (Z21.q3.s.fill v) K :=
 cut_tell hX (fn := Try.f128) (c := bodyOf Try.f128) (a := cutOf Try.f128 3) (li := liOf (C.fi 128).loops 1000003) (by kernel_rfl) (by kernel_rfl) (of_decide_eq_true rfl) (by kernel_rfl) (by kernel_rfl) (T := Z21.q3.s) (u := Z21.q3.u) (fun _ _ h => h) (call := D52) (lp := fun n => noL) (D52_ok hX) (fun n => noL_ok) (fun n v K => by kernel_rfl)
theorem Z21.q2_ok : ∀ n v K, Z21.q2.u n v K -> loopM C X0 n 128 1000002 (Z21.q2.s.fill v) K :=
 cut_tell hX (fn := Try.f128) (c := bodyOf Try.f128) (a := cutOf Try.f128 2) (li := liOf (C.fi 128).loops 1000002) (by kernel_rfl) (by kernel_rfl) (of_decide_eq_true rfl) (by kernel_rfl) (by kernel_rfl) (T := Z21.q2.s) (u := Z21.q2.u) (fun _ _ h => h) (call := D52) (lp := fun n => orL 1000003 Z21.q3.s (Z21.q3.u n) noL) (D52_ok hX) (fun n => (orL_ok (Z21.q3_ok hX n) noL_ok)) (fun n v K => by kernel_rfl)
theorem Z21_ok : ∀ n v K, Z21.u n v K -> callM C X0 n 128 (fillA Z21.a v) K :=
 call_tell hX (fn := Try.f128) (c := bodyOf Try.f128) (by kernel_rfl) (by kernel_rfl) (A := Z21.a) (u := Z21.u) (fun _ _ h => h) (call := D52) (lp := fun n => orL 1000002 Z21.q2.s (Z21.q2.u n) noL) (D52_ok hX) (fun n => (orL_ok (Z21.q2_ok hX n) noL_ok)) (fun n v K => by kernel_rfl)
def D53 (n : Nat) : CallF := orC 128 Z21.a (Z21.u n) (D52 n)
theorem D53_ok : ∀ n g a K, D53 n g a K -> callM C X0 n g a K := fun n => orC_ok (Z21_ok hX n) (D52_ok hX n)
abbrev Z51.a : List TS := [.c (.o (.dat 4 .bool)), .c (.o .bool)]
def Z51.u (n : Nat) (v : VA Z51.a) (K : RES -> Prop) : Prop := Z51.c n v.1 v.2.1 (fun r0 => K ⟨.c (.int .i64 r0), []⟩)
abbrev Z51.l2.s : ST := ⟨[(0, .c (.o (.dat 4 .bool))), (1, .c (.o .bool)), (7, .c (.o (.int .i64))), (8, .c (.o (.int .i64)))], [], [], [], []⟩
def Z51.l2.u (n : Nat) (v : Z51.l2.s.V) (K : X -> St -> Prop) : Prop := Z51.l2 n v.1.1 v.1.2.1 v.1.2.2.1 v.1.2.2.2.1 (K (.exit 0) ⟨[], [], [], [], []⟩) (fun y0 => K .ret ⟨[(4, .c (.int .i64 y0))], [], [], [], []⟩)
theorem Z51.l2_ok : ∀ n v K, Z51.l2.u n v K -> loopM C X0 n 142 2 (Z51.l2.s.fill v) K :=
 loop_tell hX (fn := Try.f142) (c := bodyOf Try.f142) (a := loopOf Try.f142 2) (li := liOf (C.fi 142).loops 2) (by kernel_rfl) (by kernel_rfl) (of_decide_eq_true rfl) (by kernel_rfl) (by kernel_rfl) (T := Z51.l2.s) (u := Z51.l2.u) (fun _ _ h => h) (call := D53) (lp := fun n => noL) (D53_ok hX) (fun n => noL_ok) (fun n v K => by kernel_rfl)
theorem Z51_ok : ∀ n v K, Z51.u n v K -> callM C X0 n 142 (fillA Z51.a v) K :=
 call_tell hX (fn := Try.f142) (c := bodyOf Try.f142) (by kernel_rfl) (by kernel_rfl) (A := Z51.a) (u := Z51.u) (fun _ _ h => h) (call := D53) (lp := fun n => orL 2 Z51.l2.s (Z51.l2.u n) noL) (D53_ok hX) (fun n => (orL_ok (Z51.l2_ok hX n) noL_ok)) (fun n v K => by kernel_rfl)
def D54 (n : Nat) : CallF := orC 142 Z51.a (Z51.u n) (D53 n)
theorem D54_ok : ∀ n g a K, D54 n g a K -> callM C X0 n g a K := fun n => orC_ok (Z51_ok hX n) (D53_ok hX n)
abbrev Z46.a : List TS := [.c (.o (.dat 4 .bool)), .c (.o .bool)]
def Z46.u (n : Nat) (v : VA Z46.a) (K : RES -> Prop) : Prop := Z46.c n v.1 v.2.1 (fun r0 => K ⟨.c (.bool r0), []⟩)
theorem Z46_ok : ∀ n v K, Z46.u n v K -> callM C X0 n 129 (fillA Z46.a v) K :=
 call_tell hX (fn := Try.f129) (c := bodyOf Try.f129) (by kernel_rfl) (by kernel_rfl) (A := Z46.a) (u := Z46.u) (fun _ _ h => h) (call := D54) (lp := fun n => noL) (D54_ok hX) (fun n => noL_ok) (fun n v K => by kernel_rfl)
def D55 (n : Nat) : CallF := orC 129 Z46.a (Z46.u n) (D54 n)
theorem D55_ok : ∀ n g a K, D55 n g a K -> callM C X0 n g a K := fun n => orC_ok (Z46_ok hX n) (D54_ok hX n)
abbrev Z39.a : List TS := [.c (.o (.dat 112 Y10)), .a [.o (.dat 79 Y3)]]
def Z39.u (n : Nat) (v : VA Z39.a) (K : RES -> Prop) : Prop := Z39.c n v.1 v.2.1.1 (fun r0 r1 => K ⟨.tup [.c (.row ⟨2, .int .i64, r0, 99, none⟩), .c (.bool r1)], []⟩)
abbrev Z39.l13.s : ST := ⟨[(0, .c (.o (.dat 112 Y10))), (3, .c (.o (.pbox 3 0))), (6, .c (.o (.int .i64))), (7, .c (.o (.own 768))), (8, .c (.o (.own 832))), (9, .c (.o (.int .i64))), (10, .c (.o (.pdat 79 Y3 0))), (11, .c (.o (.own 1536))), (29, .c (.o (.int .i64))), (30, .c (.o (.int .i64))), (52, .c (.o (.dat 2 (.int .i64)))), (53, .c (.o (.int .i64))), (54, .c (.o (.int .i64)))], [⟨768, 2, .int .i64, 99⟩, ⟨832, 4, .bool, 99⟩, ⟨1536, 2, .int .i64, 99⟩], [⟨3, 28, [.o (.dat 79 Y3)], false⟩], [], []⟩
def Z39.l13.u (n : Nat) (v : Z39.l13.s.V) (K : X -> St -> Prop) : Prop := Z39.l13 n v.1.1 v.1.2.2.1 v.1.2.2.2.2.2.1 v.1.2.2.2.2.2.2.1 v.1.2.2.2.2.2.2.2.2.1 v.1.2.2.2.2.2.2.2.2.2.1 v.1.2.2.2.2.2.2.2.2.2.2.1 v.1.2.2.2.2.2.2.2.2.2.2.2.1 v.2.1.1 v.2.2.1.1 v.1.2.2.2.2.2.2.2.2.2.2.2.2.1 v.2.1.2.1 v.2.1.2.2.1 (fun y0 y1 y2 y3 y4 y5 y6 y7 y8 y9 => K (.exit 2) ⟨[(0, .c (.dat 112 Y10 y0)), (3, .c (.pbox 3 0)), (6, .c (.int .i64 y1)), (7, .c (.own 768)), (8, .c (.own 832)), (9, .c (.int .i64 y2)), (10, .c (.pdat 79 Y3 y3 0)), (11, .c (.own 1536)), (29, .c (.int .i64 y4)), (30, .c (.int .i64 y5))], [(768, ⟨2, .int .i64, y6, 99, none⟩), (832, ⟨4, .bool, y7, 99, none⟩), (1536, ⟨2, .int .i64, y8, 99, none⟩)], [(3, ⟨28, [.dat 79 Y3 y9], false⟩)], [], []⟩) (fun y0 y1 => K .ret ⟨[(4, .c (.own 128)), (5, .c (.bool y0))], [(128, ⟨2, .int .i64, y1, 99, none⟩)], [], [], []⟩)
abbrev Z39.l6.s : ST := ⟨[(0, .c (.o (.dat 112 Y10))), (3, .c (.o (.pbox 3 0))), (6, .c (.o (.int .i64))), (7, .c (.o (.own 768))), (8, .c (.o (.own 832))), (29, .c (.o (.int .i64))), (30, .c (.o (.int .i64)))], [⟨768, 2, .int .i64, 99⟩, ⟨832, 4, .bool, 99⟩], [⟨3, 28, [.o (.dat 79 Y3)], false⟩], [], []⟩
def Z39.l6.u (n : Nat) (v : Z39.l6.s.V) (K : X -> St -> Prop) : Prop := Z39.l6 n v.1.1 v.1.2.2.1 v.1.2.2.2.2.2.1 v.1.2.2.2.2.2.2.1 v.2.1.1 v.2.1.2.1 v.2.2.1.1 (fun y0 y1 y2 => K (.exit 0) ⟨[(6, .c (.int .i64 y0)), (7, .c (.own 768)), (8, .c (.own 832))], [(768, ⟨2, .int .i64, y1, 99, none⟩), (832, ⟨4, .bool, y2, 99, none⟩)], [], [], []⟩) (fun y0 y1 => K .ret ⟨[(4, .c (.own 128)), (5, .c (.bool y0))], [(128, ⟨2, .int .i64, y1, 99, none⟩)], [], [], []⟩)
theorem Z39.l13_ok : ∀ n v K, Z39.l13.u n v K -> loopM C X0 n 93 13 (Z39.l13.s.fill v) K :=
 loop_tell hX (fn := Try.f93) (c := bodyOf Try.f93) (a := loopOf Try.f93 13) (li := liOf (C.fi 93).loops 13) (by kernel_rfl) (by kernel_rfl) (of_decide_eq_true rfl) (by kernel_rfl) (by kernel_rfl) (T := Z39.l13.s) (u := Z39.l13.u) (fun _ _ h => h) (call := D55) (lp := fun n => noL) (D55_ok hX) (fun n => noL_ok) (fun n v K => by kernel_rfl)
theorem Z39.l6_ok : ∀ n v K, Z39.l6.u n v K -> loopM C X0 n 93 6 (Z39.l6.s.fill v) K :=
 loop_tell hX (fn := Try.f93) (c := bodyOf Try.f93) (a := loopOf Try.f93 6) (li := liOf (C.fi 93).loops 6) (by kernel_rfl) (by kernel_rfl) (of_decide_eq_true rfl) (by kernel_rfl) (by kernel_rfl) (T := Z39.l6.s) (u := Z39.l6.u) (fun _ _ h => h) (call := D55) (lp := fun n => orL 13 Z39.l13.s (Z39.l13.u n) noL) (D55_ok hX) (fun n => (orL_ok (Z39.l13_ok hX n) noL_ok)) (fun n v K => by kernel_rfl)
theorem Z39_ok : ∀ n v K, Z39.u n v K -> callM C X0 n 93 (fillA Z39.a v) K :=
 call_tell hX (fn := Try.f93) (c := bodyOf Try.f93) (by kernel_rfl) (by kernel_rfl) (A := Z39.a) (u := Z39.u) (fun _ _ h => h) (call := D55) (lp := fun n => orL 6 Z39.l6.s (Z39.l6.u n) noL) (D55_ok hX) (fun n => (orL_ok (Z39.l6_ok hX n) noL_ok)) (fun n v K => by kernel_rfl)
def D56 (n : Nat) : CallF := orC 93 Z39.a (Z39.u n) (D55 n)
theorem D56_ok : ∀ n g a K, D56 n g a K -> callM C X0 n g a K := fun n => orC_ok (Z39_ok hX n) (D55_ok hX n)
abbrev Z38.a : List TS := [.c (.o (.dat 112 Y10)), .a [.o (.dat 79 Y3)]]
def Z38.u (n : Nat) (v : VA Z38.a) (K : RES -> Prop) : Prop := Z38.c n v.1 v.2.1.1 (fun r0 => K ⟨.c (.int .i64 r0), []⟩)
theorem Z38_ok : ∀ n v K, Z38.u n v K -> callM C X0 n 49 (fillA Z38.a v) K :=
 call_tell hX (fn := Try.f49) (c := bodyOf Try.f49) (by kernel_rfl) (by kernel_rfl) (A := Z38.a) (u := Z38.u) (fun _ _ h => h) (call := D56) (lp := fun n => noL) (D56_ok hX) (fun n => noL_ok) (fun n v K => by kernel_rfl)
def D57 (n : Nat) : CallF := orC 49 Z38.a (Z38.u n) (D56 n)
theorem D57_ok : ∀ n g a K, D57 n g a K -> callM C X0 n g a K := fun n => orC_ok (Z38_ok hX n) (D56_ok hX n)
abbrev Z30.a : List TS := [.c (.o (.dat 112 Y10)), .c (.o (.dat 30 Y1))]
def Z30.u (n : Nat) (v : VA Z30.a) (K : RES -> Prop) : Prop := Z30.c n v.1 v.2.1 (fun r0 => K ⟨.c (.bool r0), []⟩)
abbrev Z30.l5.s : ST := ⟨[(0, .c (.o (.dat 112 Y10))), (5, .c (.o (.int .i64))), (12, .c (.o (.dat 30 Y1))), (13, .c (.o (.int .i64))), (14, .c (.o (.int .i64)))], [], [], [], []⟩
def Z30.l5.u (n : Nat) (v : Z30.l5.s.V) (K : X -> St -> Prop) : Prop := Z30.l5 n v.1.1 v.1.2.2.1 v.1.2.2.2.1 v.1.2.1 v.1.2.2.2.2.1 (K (.exit 0) ⟨[], [], [], [], []⟩) (fun y0 => K .ret ⟨[(4, .c (.bool y0))], [], [], [], []⟩)
theorem Z30.l5_ok : ∀ n v K, Z30.l5.u n v K -> loopM C X0 n 39 5 (Z30.l5.s.fill v) K :=
 loop_tell hX (fn := Try.f39) (c := bodyOf Try.f39) (a := loopOf Try.f39 5) (li := liOf (C.fi 39).loops 5) (by kernel_rfl) (by kernel_rfl) (of_decide_eq_true rfl) (by kernel_rfl) (by kernel_rfl) (T := Z30.l5.s) (u := Z30.l5.u) (fun _ _ h => h) (call := D57) (lp := fun n => noL) (D57_ok hX) (fun n => noL_ok) (fun n v K => by kernel_rfl)
theorem Z30_ok : ∀ n v K, Z30.u n v K -> callM C X0 n 39 (fillA Z30.a v) K :=
 call_tell hX (fn := Try.f39) (c := bodyOf Try.f39) (by kernel_rfl) (by kernel_rfl) (A := Z30.a) (u := Z30.u) (fun _ _ h => h) (call := D57) (lp := fun n => orL 5 Z30.l5.s (Z30.l5.u n) noL) (D57_ok hX) (fun n => (orL_ok (Z30.l5_ok hX n) noL_ok)) (fun n v K => by kernel_rfl)
def D58 (n : Nat) : CallF := orC 39 Z30.a (Z30.u n) (D57 n)
theorem D58_ok : ∀ n g a K, D58 n g a K -> callM C X0 n g a K := fun n => orC_ok (Z30_ok hX n) (D57_ok hX n)
abbrev Z41.a : List TS := [.c (.o (.int .i64))]
def Z41.u (n : Nat) (v : VA Z41.a) (K : RES -> Prop) : Prop := Z41.c n v.1 (fun r0 r1 => K ⟨.agg [.int .i64 r0, .row ⟨90, .int .u64, r1, 99, none⟩], []⟩)
theorem Z41_ok : ∀ n v K, Z41.u n v K -> callM C X0 n 52 (fillA Z41.a v) K :=
 call_tell hX (fn := Try.f52) (c := bodyOf Try.f52) (by kernel_rfl) (by kernel_rfl) (A := Z41.a) (u := Z41.u) (fun _ _ h => h) (call := D58) (lp := fun n => noL) (D58_ok hX) (fun n => noL_ok) (fun n v K => by kernel_rfl)
def D59 (n : Nat) : CallF := orC 52 Z41.a (Z41.u n) (D58 n)
theorem D59_ok : ∀ n g a K, D59 n g a K -> callM C X0 n g a K := fun n => orC_ok (Z41_ok hX n) (D58_ok hX n)
abbrev Z5.a : List TS := [.a [.o (.int .i64), .o (.row 90 (.int .u64) 99)], .c (.o (.int .i64)), .a [.o (.int .i64), .o (.dat 90 (.int .u64))]]
def Z5.u (n : Nat) (v : VA Z5.a) (K : RES -> Prop) : Prop := Z5.c n v.1.1 v.1.2.1 v.2.1 v.2.2.1.1 v.2.2.1.2.1 (fun r0 r1 => K ⟨.tup [], [[.int .i64 r0, .row ⟨90, .int .u64, r1, 99, none⟩]]⟩)
abbrev Z5.l2.s : ST := ⟨[(1, .c (.o (.int .i64))), (3, .c (.o (.pbox 3 0))), (10, .c (.o (.dat 90 (.int .u64)))), (11, .c (.o (.int .i64))), (12, .c (.o (.int .i64)))], [⟨1, 90, .int .u64, 99⟩], [⟨3, 44, [.o (.int .i64), .o (.own 1)], false⟩], [1], []⟩
def Z5.l2.u (n : Nat) (v : Z5.l2.s.V) (K : X -> St -> Prop) : Prop := Z5.l2 n v.1.1 v.1.2.2.1 v.1.2.2.2.1 v.2.2.1.1 v.1.2.2.2.2.1 v.2.1.1 (fun y0 => K (.exit 0) ⟨[], [(1, ⟨90, .int .u64, y0, 99, none⟩)], [], [1], []⟩)
theorem Z5.l2_ok : ∀ n v K, Z5.l2.u n v K -> loopM C X0 n 54 2 (Z5.l2.s.fill v) K :=
 loop_tell hX (fn := Try.f54) (c := bodyOf Try.f54) (a := loopOf Try.f54 2) (li := liOf (C.fi 54).loops 2) (by kernel_rfl) (by kernel_rfl) (of_decide_eq_true rfl) (by kernel_rfl) (by kernel_rfl) (T := Z5.l2.s) (u := Z5.l2.u) (fun _ _ h => h) (call := D59) (lp := fun n => noL) (D59_ok hX) (fun n => noL_ok) (fun n v K => by kernel_rfl)
theorem Z5_ok : ∀ n v K, Z5.u n v K -> callM C X0 n 54 (fillA Z5.a v) K :=
 call_tell hX (fn := Try.f54) (c := bodyOf Try.f54) (by kernel_rfl) (by kernel_rfl) (A := Z5.a) (u := Z5.u) (fun _ _ h => h) (call := D59) (lp := fun n => orL 2 Z5.l2.s (Z5.l2.u n) noL) (D59_ok hX) (fun n => (orL_ok (Z5.l2_ok hX n) noL_ok)) (fun n v K => by kernel_rfl)
def D60 (n : Nat) : CallF := orC 54 Z5.a (Z5.u n) (D59 n)
theorem D60_ok : ∀ n g a K, D60 n g a K -> callM C X0 n g a K := fun n => orC_ok (Z5_ok hX n) (D59_ok hX n)
abbrev Z4.a : List TS := [.a [.o (.int .i64), .o (.dat 90 (.int .u64))], .a [.o (.int .i64), .o (.dat 90 (.int .u64))]]
def Z4.u (n : Nat) (v : VA Z4.a) (K : RES -> Prop) : Prop := Z4.c n v.1.1 v.1.2.1 v.2.1.1 v.2.1.2.1 (fun r0 r1 => K ⟨.agg [.int .i64 r0, .row ⟨90, .int .u64, r1, 99, none⟩], []⟩)
theorem Z4_ok : ∀ n v K, Z4.u n v K -> callM C X0 n 130 (fillA Z4.a v) K :=
 call_tell hX (fn := Try.f130) (c := bodyOf Try.f130) (by kernel_rfl) (by kernel_rfl) (A := Z4.a) (u := Z4.u) (fun _ _ h => h) (call := D60) (lp := fun n => noL) (D60_ok hX) (fun n => noL_ok) (fun n v K => by kernel_rfl)
def D61 (n : Nat) : CallF := orC 130 Z4.a (Z4.u n) (D60 n)
theorem D61_ok : ∀ n g a K, D61 n g a K -> callM C X0 n g a K := fun n => orC_ok (Z4_ok hX n) (D60_ok hX n)
end
end Go.Vsi
end

section
set_option linter.unusedVariables false
namespace Go.Vsi
open Go.Proofs
section
variable {X0 : CallF} (hX : CallF.Mono X0)
include hX
abbrev Z3.a : List TS := [.a [.o (.int .i64), .o (.dat 90 (.int .u64))], .c (.o (.int .i64)), .c (.o (.int .i64))]
def Z3.u (n : Nat) (v : VA Z3.a) (K : RES -> Prop) : Prop := Z3.c n v.1.1 v.1.2.1 v.2.1 v.2.2.1 (fun r0 r1 => K ⟨.agg [.int .i64 r0, .row ⟨90, .int .u64, r1, 99, none⟩], []⟩)
abbrev Z3.l3.s : ST := ⟨[(1, .c (.o (.int .i64))), (2, .c (.o (.int .i64))), (3, .c (.o (.pbox 3 0))), (6, .c (.o (.pbox 6 0))), (7, .c (.o (.pbox 7 0))), (15, .c (.o (.int .i64))), (16, .c (.o (.int .i64)))], [⟨385, 90, .int .u64, 99⟩, ⟨1000193, 90, .int .u64, 99⟩], [⟨3, 44, [.o (.int .i64), .o (.dat 90 (.int .u64))], false⟩, ⟨6, 44, [.o (.int .i64), .o (.own 1000193)], false⟩, ⟨7, 44, [.o (.int .i64), .o (.own 385)], false⟩], [], []⟩
def Z3.l3.u (n : Nat) (v : Z3.l3.s.V) (K : X -> St -> Prop) : Prop := Z3.l3 n v.1.1 v.1.2.1 v.1.2.2.2.2.2.1 v.2.1.2.1 v.2.2.1.1 v.2.2.1.2.1 v.2.2.2.1.1 v.2.2.2.2.1.1 v.1.2.2.2.2.2.2.1 v.2.1.1 (fun y0 y1 y2 y3 y4 => K (.exit 0) ⟨[(2, .c (.int .i64 y0)), (6, .c (.pbox 6 0)), (7, .c (.pbox 7 0))], [(385, ⟨90, .int .u64, y1, 99, none⟩), (1000193, ⟨90, .int .u64, y2, 99, none⟩)], [(6, ⟨44, [.int .i64 y3, .own 1000193], false⟩), (7, ⟨44, [.int .i64 y4, .own 385], false⟩)], [], []⟩)
theorem Z3.l3_ok : ∀ n v K, Z3.l3.u n v K -> loopM C X0 n 55 3 (Z3.l3.s.fill v) K :=
 loop_tell hX (fn := Try.f55) (c := bodyOf Try.f55) (a := loopOf Try.f55 3) (li := liOf (C.fi 55).loops 3) (by kernel_rfl) (by kernel_rfl) (of_decide_eq_true rfl) (by kernel_rfl) (by kernel_rfl) (T := Z3.l3.s) (u := Z3.l3.u) (fun _ _ h => h) (call := D61) (lp := fun n => noL) (D61_ok hX) (fun n => noL_ok) (fun n v K => by kernel_rfl)
theorem Z3_ok : ∀ n v K, Z3.u n v K -> callM C X0 n 55 (fillA Z3.a v) K :=
 call_tell hX (fn := Try.f55) (c := bodyOf Try.f55) (by kernel_rfl) (by kernel_rfl) (A := Z3.a) (u := Z3.u) (fun _ _ h => h) (call := D61) (lp := fun n => orL 3 Z3.l3.s (Z3.l3.u n) noL) (D61_ok hX) (fun n => (orL_ok (Z3.l3_ok hX n) noL_ok)) (fun n v K => by kernel_rfl)
def D62 (n : Nat) : CallF := orC 55 Z3.a (Z3.u n) (D61 n)
theorem D62_ok : ∀ n g a K, D62 n g a K -> callM C X0 n g a K := fun n => orC_ok (Z3_ok hX n) (D61_ok hX n)
abbrev Z44.a : List TS := [.c (.o (.dat 90 (.int .u64)))]
def Z44.u (n : Nat) (v : VA Z44.a) (K : RES -> Prop) : Prop := Z44.c n v.1 (fun r0 => K ⟨.c (.row ⟨90, .int .u64, r0, 99, none⟩), []⟩)
theorem Z44_ok : ∀ n v K, Z44.u n v K -> callM C X0 n 134 (fillA Z44.a v) K :=
 call_tell hX (fn := Try.f134) (c := bodyOf Try.f134) (by kernel_rfl) (by kernel_rfl) (A := Z44.a) (u := Z44.u) (fun _ _ h => h) (call := D62) (lp := fun n => noL) (D62_ok hX) (fun n => noL_ok) (fun n v K => by kernel_rfl)
def D63 (n : Nat) : CallF := orC 134 Z44.a (Z44.u n) (D62 n)
theorem D63_ok : ∀ n g a K, D63 n g a K -> callM C X0 n g a K := fun n => orC_ok (Z44_ok hX n) (D62_ok hX n)
abbrev Z24.a : List TS := [.a [.o (.int .i64), .o (.dat 90 (.int .u64))]]
def Z24.u (n : Nat) (v : VA Z24.a) (K : RES -> Prop) : Prop := Z24.c n v.1.1 v.1.2.1 (fun r0 r1 => K ⟨.agg [.int .i64 r0, .row ⟨90, .int .u64, r1, 99, none⟩], []⟩)
theorem Z24_ok : ∀ n v K, Z24.u n v K -> callM C X0 n 95 (fillA Z24.a v) K :=
 call_tell hX (fn := Try.f95) (c := bodyOf Try.f95) (by kernel_rfl) (by kernel_rfl) (A := Z24.a) (u := Z24.u) (fun _ _ h => h) (call := D63) (lp := fun n => noL) (D63_ok hX) (fun n => noL_ok) (fun n v K => by kernel_rfl)
def D64 (n : Nat) : CallF := orC 95 Z24.a (Z24.u n) (D63 n)
theorem D64_ok : ∀ n g a K, D64 n g a K -> callM C X0 n g a K := fun n => orC_ok (Z24_ok hX n) (D63_ok hX n)
abbrev Z9.a : List TS := [.a [.o (.int .i64), .o (.dat 90 (.int .u64))], .c (.o (.int .i64))]
def Z9.u (n : Nat) (v : VA Z9.a) (K : RES -> Prop) : Prop := Z9.c n v.1.1 v.1.2.1 v.2.1 (fun r0 r1 => K ⟨.agg [.int .i64 r0, .row ⟨90, .int .u64, r1, 99, none⟩], []⟩)
theorem Z9_ok : ∀ n v K, Z9.u n v K -> callM C X0 n 131 (fillA Z9.a v) K :=
 call_tell hX (fn := Try.f131) (c := bodyOf Try.f131) (by kernel_rfl) (by kernel_rfl) (A := Z9.a) (u := Z9.u) (fun _ _ h => h) (call := D64) (lp := fun n => noL) (D64_ok hX) (fun n => noL_ok) (fun n v K => by kernel_rfl)
def D65 (n : Nat) : CallF := orC 131 Z9.a (Z9.u n) (D64 n)
theorem D65_ok : ∀ n g a K, D65 n g a K -> callM C X0 n g a K := fun n => orC_ok (Z9_ok hX n) (D64_ok hX n)
abbrev Z6.a : List TS := [.a [.o (.int .i64), .o (.dat 90 (.int .u64))], .c (.o (.int .i64))]
def Z6.u (n : Nat) (v : VA Z6.a) (K : RES -> Prop) : Prop := Z6.c n v.1.1 v.1.2.1 v.2.1 (fun r0 r1 => K ⟨.agg [.int .i64 r0, .row ⟨90, .int .u64, r1, 99, none⟩], []⟩)
abbrev Z6.l3.s : ST := ⟨[(2, .c (.o (.pbox 2 0))), (4, .c (.o (.pbox 4 0))), (5, .c (.o (.pbox 5 0))), (12, .c (.o (.int .i64))), (13, .c (.o (.int .i64)))], [⟨353, 90, .int .u64, 99⟩, ⟨1000129, 90, .int .u64, 99⟩], [⟨2, 44, [.o (.int .i64), .o (.dat 90 (.int .u64))], false⟩, ⟨4, 44, [.o (.int .i64), .o (.own 1000129)], false⟩, ⟨5, 44, [.o (.int .i64), .o (.own 353)], false⟩], [], []⟩
def Z6.l3.u (n : Nat) (v : Z6.l3.s.V) (K : X -> St -> Prop) : Prop := Z6.l3 n v.1.2.2.2.1 v.2.1.2.1 v.2.2.1.1 v.2.2.1.2.1 v.2.2.2.1.1 v.2.2.2.2.1.1 v.1.2.2.2.2.1 v.2.1.1 (fun y0 y1 y2 y3 => K (.exit 0) ⟨[(4, .c (.pbox 4 0)), (5, .c (.pbox 5 0))], [(353, ⟨90, .int .u64, y0, 99, none⟩), (1000129, ⟨90, .int .u64, y1, 99, none⟩)], [(4, ⟨44, [.int .i64 y2, .own 1000129], false⟩), (5, ⟨44, [.int .i64 y3, .own 353], false⟩)], [], []⟩)
theorem Z6.l3_ok : ∀ n v K, Z6.l3.u n v K -> loopM C X0 n 132 3 (Z6.l3.s.fill v) K :=
 loop_tell hX (fn := Try.f132) (c := bodyOf Try.f132) (a := loopOf Try.f132 3) (li := liOf (C.fi 132).loops 3) (by kernel_rfl) (by kernel_rfl) (of_decide_eq_true rfl) (by kernel_rfl) (by kernel_rfl) (T := Z6.l3.s) (u := Z6.l3.u) (fun _ _ h => h) (call := D65) (lp := fun n => noL) (D65_ok hX) (fun n => noL_ok) (fun n v K => by kernel_rfl)
theorem Z6_ok : ∀ n v K, Z6.u n v K -> callM C X0 n 132 (fillA Z6.a v) K :=
 call_tell hX (fn := Try.f132) (c := bodyOf Try.f132) (by kernel_rfl) (by kernel_rfl) (A := Z6.a) (u := Z6.u) (fun _ _ h => h) (call := D65) (lp := fun n => orL 3 Z6.l3.s (Z6.l3.u n) noL) (D65_ok hX) (fun n => (orL_ok (Z6.l3_ok hX n) noL_ok)) (fun n v K => by kernel_rfl)
def D66 (n : Nat) : CallF := orC 132 Z6.a (Z6.u n) (D65 n)
theorem D66_ok : ∀ n g a K, D66 n g a K -> callM C X0 n g a K := fun n => orC_ok (Z6_ok hX n) (D65_ok hX n)
abbrev Z2.a : List TS := [.a [.o (.int .i64), .o (.dat 90 (.int .u64))], .c (.o (.int .i64))]
def Z2.u (n : Nat) (v : VA Z2.a) (K : RES -> Prop) : Prop := Z2.c n v.1.1 v.1.2.1 v.2.1 (fun r0 => K ⟨.c (.int .u64 r0), []⟩)
theorem Z2_ok : ∀ n v K, Z2.u n v K -> callM C X0 n 143 (fillA Z2.a v) K :=
 call_tell hX (fn := Try.f143) (c := bodyOf Try.f143) (by kernel_rfl) (by kernel_rfl) (A := Z2.a) (u := Z2.u) (fun _ _ h => h) (call := D66) (lp := fun n => noL) (D66_ok hX) (fun n => noL_ok) (fun n v K => by kernel_rfl)
def D67 (n : Nat) : CallF := orC 143 Z2.a (Z2.u n) (D66 n)
theorem D67_ok : ∀ n g a K, D67 n g a K -> callM C X0 n g a K := fun n => orC_ok (Z2_ok hX n) (D66_ok hX n)
abbrev Z8.a : List TS := [.a [.o (.int .i64), .o (.row 90 (.int .u64) 99)], .c (.o (.int .i64))]
def Z8.u (n : Nat) (v : VA Z8.a) (K : RES -> Prop) : Prop := Z8.c n v.1.1 v.1.2.1 v.2.1 (fun r0 r1 => K ⟨.tup [], [[.int .i64 r0, .row ⟨90, .int .u64, r1, 99, none⟩]]⟩)
theorem Z8_ok : ∀ n v K, Z8.u n v K -> callM C X0 n 144 (fillA Z8.a v) K :=
 call_tell hX (fn := Try.f144) (c := bodyOf Try.f144) (by kernel_rfl) (by kernel_rfl) (A := Z8.a) (u := Z8.u) (fun _ _ h => h) (call := D67) (lp := fun n => noL) (D67_ok hX) (fun n => noL_ok) (fun n v K => by kernel_rfl)
def D68 (n : Nat) : CallF := orC 144 Z8.a (Z8.u n) (D67 n)
theorem D68_ok : ∀ n g a K, D68 n g a K -> callM C X0 n g a K := fun n => orC_ok (Z8_ok hX n) (D67_ok hX n)
abbrev Z10.a : List TS := [.a [.o (.int .i64), .o (.dat 90 (.int .u64))], .c (.o (.int .i64)), .c (.o .bool)]
def Z10.u (n : Nat) (v : VA Z10.a) (K : RES -> Prop) : Prop := Z10.c n v.1.1 v.1.2.1 v.2.1 v.2.2.1 (fun r0 r1 => K ⟨.agg [.int .i64 r0, .row ⟨90, .int .u64, r1, 99, none⟩], []⟩)
abbrev Z10.l5.s : ST := ⟨[(3, .c (.o (.pbox 3 0))), (6, .c (.o (.pbox 6 0))), (7, .c (.o (.pbox 7 0))), (26, .c (.o (.int .i64))), (27, .c (.o (.int .i64)))], [⟨417, 90, .int .u64, 99⟩, ⟨1000193, 90, .int .u64, 99⟩], [⟨3, 44, [.o (.int .i64), .o (.dat 90 (.int .u64))], false⟩, ⟨6, 44, [.o (.int .i64), .o (.own 1000193)], false⟩, ⟨7, 44, [.o (.int .i64), .o (.own 417)], false⟩], [], []⟩
def Z10.l5.u (n : Nat) (v : Z10.l5.s.V) (K : X -> St -> Prop) : Prop := Z10.l5 n v.1.2.2.2.1 v.2.1.2.1 v.2.2.1.1 v.2.2.1.2.1 v.2.2.2.1.1 v.2.2.2.2.1.1 v.1.2.2.2.2.1 v.2.1.1 (fun y0 y1 y2 y3 => K (.exit 0) ⟨[(6, .c (.pbox 6 0)), (7, .c (.pbox 7 0))], [(417, ⟨90, .int .u64, y0, 99, none⟩), (1000193, ⟨90, .int .u64, y1, 99, none⟩)], [(6, ⟨44, [.int .i64 y2, .own 1000193], false⟩), (7, ⟨44, [.int .i64 y3, .own 417], false⟩)], [], []⟩)
theorem Z10.l5_ok : ∀ n v K, Z10.l5.u n v K -> loopM C X0 n 133 5 (Z10.l5.s.fill v) K :=
 loop_tell hX (fn := Try.f133) (c := bodyOf Try.f133) (a := loopOf Try.f133 5) (li := liOf (C.fi 133).loops 5) (by kernel_rfl) (by kernel_rfl) (of_decide_eq_true rfl) (by kernel_rfl) (by kernel_rfl) (T := Z10.l5.s) (u := Z10.l5.u) (fun _ _ h => h) (call := D68) (lp := fun n => noL) (D68_ok hX) (fun n => noL_ok) (fun n v K => by kernel_rfl)
theorem Z10_ok : ∀ n v K, Z10.u n v K -> callM C X0 n 133 (fillA Z10.a v) K :=
 call_tell hX (fn := Try.f133) (c := bodyOf Try.f133) (by kernel_rfl) (by kernel_rfl) (A := Z10.a) (u := Z10.u) (fun _ _ h => h) (call := D68) (lp := fun n => orL 5 Z10.l5.s (Z10.l5.u n) noL) (D68_ok hX) (fun n => (orL_ok (Z10.l5_ok hX n) noL_ok)) (fun n v K => by kernel_rfl)
def D69 (n : Nat) : CallF := orC 133 Z10.a (Z10.u n) (D68 n)
theorem D69_ok : ∀ n g a K, D69 n g a K -> callM C X0 n g a K := fun n => orC_ok (Z10_ok hX n) (D68_ok hX n)
abbrev Z20.a : List TS := [.c (.o (.pdat 79 Y3 0)), .c (.o (.dat 44 Y7)), .c (.o (.dat 44 Y7))]
def Z20.u (n : Nat) (v : VA Z20.a) (K : RES -> Prop) : Prop := Z20.c n v.1 v.2.1 v.2.2.1 (fun r0 r1 => K ⟨.agg [.int .i64 r0, .dat 90 (.int .u64) r1], []⟩)
abbrev Z20.l9.s : ST := ⟨[(6, .c (.o (.pbox 6 0))), (7, .c (.o (.pbox 7 0))), (36, .c (.o (.dat 44 Y7))), (37, .c (.o (.int .i64))), (38, .c (.o (.int .i64)))], [⟨1000193, 90, .int .u64, 99⟩], [⟨6, 44, [.o (.int .i64), .o (.own 1000193)], false⟩, ⟨7, 44, [.o (.int .i64), .o (.dat 90 (.int .u64))], false⟩], [], []⟩
def Z20.l9.u (n : Nat) (v : Z20.l9.s.V) (K : X -> St -> Prop) : Prop := Z20.l9 n v.1.2.2.1 v.1.2.2.2.1 v.2.1.1 v.2.2.1.1 v.1.2.2.2.2.1 v.2.2.2.1.1 v.2.2.2.1.2.1 (fun y0 y1 y2 y3 => K (.exit 1) ⟨[(6, .c (.pbox 6 0)), (7, .c (.pbox 7 0))], [(1000193, ⟨90, .int .u64, y0, 99, none⟩)], [(6, ⟨44, [.int .i64 y1, .own 1000193], false⟩), (7, ⟨44, [.int .i64 y2, .dat 90 (.int .u64) y3], false⟩)], [], []⟩)
theorem Z20.l9_ok : ∀ n v K, Z20.l9.u n v K -> loopM C X0 n 94 9 (Z20.l9.s.fill v) K :=
 loop_tell hX (fn := Try.f94) (c := bodyOf Try.f94) (a := loopOf Try.f94 9) (li := liOf (C.fi 94).loops 9) (by kernel_rfl) (by kernel_rfl) (of_decide_eq_true rfl) (by kernel_rfl) (by kernel_rfl) (T := Z20.l9.s) (u := Z20.l9.u) (fun _ _ h => h) (call := D69) (lp := fun n => noL) (D69_ok hX) (fun n => noL_ok) (fun n v K => by kernel_rfl)
theorem Z20_ok : ∀ n v K, Z20.u n v K -> callM C X0 n 94 (fillA Z20.a v) K :=
 call_tell hX (fn := Try.f94) (c := bodyOf Try.f94) (by kernel_rfl) (by kernel_rfl) (A := Z20.a) (u := Z20.u) (fun _ _ h => h) (call := D69) (lp := fun n => orL 9 Z20.l9.s (Z20.l9.u n) noL) (D69_ok hX) (fun n => (orL_ok (Z20.l9_ok hX n) noL_ok)) (fun n v K => by kernel_rfl)
def D70 (n : Nat) : CallF := orC 94 Z20.a (Z20.u n) (D69 n)
theorem D70_ok : ∀ n g a K, D70 n g a K -> callM C X0 n g a K := fun n => orC_ok (Z20_ok hX n) (D69_ok hX n)
abbrev Z28.a : List TS := [.c (.o (.dat 44 Y7)), .a [.o (.dat 79 Y3)]]
def Z28.u (n : Nat) (v : VA Z28.a) (K : RES -> Prop) : Prop := Z28.c n v.1 v.2.1.1 (fun r0 r1 => K ⟨.agg [.int .i64 r0, .row ⟨90, .int .u64, r1, 99, none⟩], []⟩)
abbrev Z28.l8.s : ST := ⟨[(0, .c (.o (.dat 44 Y7))), (3, .c (.o (.pbox 3 0))), (4, .c (.o (.pbox 4 0))), (5, .c (.o (.own 160))), (6, .c (.o (.int .i64))), (7, .c (.o (.pdat 79 Y3 0))), (8, .c (.o (.own 256))), (17, .c (.o (.int .i64))), (18, .c (.o (.int .i64))), (34, .c (.o (.dat 2 (.int .i64)))), (35, .c (.o (.int .i64))), (36, .c (.o (.int .i64)))], [⟨160, 44, .prod (.int .i64) (.sl 90 (.int .u64)), 1⟩, ⟨256, 44, .prod (.int .i64) (.sl 90 (.int .u64)), 1⟩, ⟨1000129, 90, .int .u64, 99⟩], [⟨3, 28, [.o (.dat 79 Y3)], false⟩, ⟨4, 44, [.o (.int .i64), .o (.own 1000129)], false⟩], [], []⟩
def Z28.l8.u (n : Nat) (v : Z28.l8.s.V) (K : X -> St -> Prop) : Prop := Z28.l8 n v.1.1 v.1.2.2.2.2.1 v.1.2.2.2.2.2.1 v.1.2.2.2.2.2.2.2.1 v.1.2.2.2.2.2.2.2.2.1 v.1.2.2.2.2.2.2.2.2.2.1 v.1.2.2.2.2.2.2.2.2.2.2.1 v.2.1.1 v.2.1.2.2.1 v.2.2.1.1 v.2.2.2.1.1 v.1.2.2.2.2.2.2.2.2.2.2.2.1 v.2.1.2.1 (fun y0 y1 y2 y3 y4 y5 y6 y7 y8 y9 => K (.exit 2) ⟨[(0, .c (.dat 44 Y7 y0)), (3, .c (.pbox 3 0)), (4, .c (.pbox 4 0)), (5, .c (.own 160)), (6, .c (.int .i64 y1)), (7, .c (.pdat 79 Y3 y2 0)), (8, .c (.own 256)), (17, .c (.int .i64 y3)), (18, .c (.int .i64 y4))], [(160, ⟨44, .prod (.int .i64) (.sl 90 (.int .u64)), y5, 1, none⟩), (256, ⟨44, .prod (.int .i64) (.sl 90 (.int .u64)), y6, 1, none⟩), (1000129, ⟨90, .int .u64, y7, 99, none⟩)], [(3, ⟨28, [.dat 79 Y3 y8], false⟩), (4, ⟨44, [.int .i64 y9, .own 1000129], false⟩)], [], []⟩)
abbrev Z28.l3.s : ST := ⟨[(0, .c (.o (.dat 44 Y7))), (3, .c (.o (.pbox 3 0))), (4, .c (.o (.pbox 4 0))), (5, .c (.o (.own 160))), (17, .c (.o (.int .i64))), (18, .c (.o (.int .i64)))], [⟨160, 44, .prod (.int .i64) (.sl 90 (.int .u64)), 1⟩, ⟨1000129, 90, .int .u64, 99⟩], [⟨3, 28, [.o (.dat 79 Y3)], false⟩, ⟨4, 44, [.o (.int .i64), .o (.own 1000129)], false⟩], [], []⟩
def Z28.l3.u (n : Nat) (v : Z28.l3.s.V) (K : X -> St -> Prop) : Prop := Z28.l3 n v.1.1 v.1.2.2.2.2.1 v.1.2.2.2.2.2.1 v.2.1.1 v.2.1.2.1 v.2.2.1.1 v.2.2.2.1.1 (fun y0 y1 y2 => K (.exit 0) ⟨[(4, .c (.pbox 4 0)), (5, .c (.own 160))], [(160, ⟨44, .prod (.int .i64) (.sl 90 (.int .u64)), y0, 1, none⟩), (1000129, ⟨90, .int .u64, y1, 99, none⟩)], [(4, ⟨44, [.int .i64 y2, .own 1000129], false⟩)], [], []⟩)
theorem Z28.l8_ok : ∀ n v K, Z28.l8.u n v K -> loopM C X0 n 50 8 (Z28.l8.s.fill v) K :=
 loop_tell hX (fn := Try.f50) (c := bodyOf Try.f50) (a := loopOf Try.f50 8) (li := liOf (C.fi 50).loops 8) (by kernel_rfl) (by kernel_rfl) (of_decide_eq_true rfl) (by kernel_rfl) (by kernel_rfl) (T := Z28.l8.s) (u := Z28.l8.u) (fun _ _ h => h) (call := D70) (lp := fun n => noL) (D70_ok hX) (fun n => noL_ok) (fun n v K => by kernel_rfl)
theorem Z28.l3_ok : ∀ n v K, Z28.l3.u n v K -> loopM C X0 n 50 3 (Z28.l3.s.fill v) K :=
 loop_tell hX (fn := Try.f50) (c := bodyOf Try.f50) (a := loopOf Try.f50 3) (li := liOf (C.fi 50).loops 3) (by kernel_rfl) (by kernel_rfl) (of_decide_eq_true rfl) (by kernel_rfl) (by kernel_rfl) (T := Z28.l3.s) (u := Z28.l3.u) (fun _ _ h => h) (call := D70) (lp := fun n => orL 8 Z28.l8.s (Z28.l8.u n) noL) (D70_ok hX) (fun n => (orL_ok (Z28.l8_ok hX n) noL_ok)) (fun n v K => by kernel_rfl)
theorem Z28_ok : ∀ n v K, Z28.u n v K -> callM C X0 n 50 (fillA Z28.a v) K :=
 call_tell hX (fn := Try.f50) (c := bodyOf Try.f50) (by kernel_rfl) (by kernel_rfl) (A := Z28.a) (u := Z28.u) (fun _ _ h => h) (call := D70) (lp := fun n => orL 3 Z28.l3.s (Z28.l3.u n) noL) (D70_ok hX) (fun n => (orL_ok (Z28.l3_ok hX n) noL_ok)) (fun n v K => by kernel_rfl)
def D71 (n : Nat) : CallF := orC 50 Z28.a (Z28.u n) (D70 n)
theorem D71_ok : ∀ n g a K, D71 n g a K -> callM C X0 n g a K := fun n => orC_ok (Z28_ok hX n) (D70_ok hX n)
abbrev Z47.a : List TS := [.c (.o (.dat 90 (.int .u64))), .c (.o (.dat 90 (.int .u64)))]
def Z47.u (n : Nat) (v : VA Z47.a) (K : RES -> Prop) : Prop := Z47.c n v.1 v.2.1 (fun r0 => K ⟨.c (.bool r0), []⟩)
abbrev Z47.l4.s : ST := ⟨[(0, .c (.o (.dat 90 (.int .u64)))), (1, .c (.o (.dat 90 (.int .u64)))), (12, .c (.o (.int .i64))), (13, .c (.o (.int .i64)))], [], [], [], []⟩
def Z47.l4.u (n : Nat) (v : Z47.l4.s.V) (K : X -> St -> Prop) : Prop := Z47.l4 n v.1.1 v.1.2.1 v.1.2.2.1 v.1.2.2.2.1 (K (.exit 0) ⟨[], [], [], [], []⟩) (fun y0 => K .ret ⟨[(4, .c (.bool y0))], [], [], [], []⟩)
theorem Z47.l4_ok : ∀ n v K, Z47.l4.u n v K -> loopM C X0 n 118 4 (Z47.l4.s.fill v) K :=
 loop_tell hX (fn := Try.f118) (c := bodyOf Try.f118) (a := loopOf Try.f118 4) (li := liOf (C.fi 118).loops 4) (by kernel_rfl) (by kernel_rfl) (of_decide_eq_true rfl) (by kernel_rfl) (by kernel_rfl) (T := Z47.l4.s) (u := Z47.l4.u) (fun _ _ h => h) (call := D71) (lp := fun n => noL) (D71_ok hX) (fun n => noL_ok) (fun n v K => by kernel_rfl)
theorem Z47_ok : ∀ n v K, Z47.u n v K -> callM C X0 n 118 (fillA Z47.a v) K :=
 call_tell hX (fn := Try.f118) (c := bodyOf Try.f118) (by kernel_rfl) (by kernel_rfl) (A := Z47.a) (u := Z47.u) (fun _ _ h => h) (call := D71) (lp := fun n => orL 4 Z47.l4.s (Z47.l4.u n) noL) (D71_ok hX) (fun n => (orL_ok (Z47.l4_ok hX n) noL_ok)) (fun n v K => by kernel_rfl)
def D72 (n : Nat) : CallF := orC 118 Z47.a (Z47.u n) (D71 n)
theorem D72_ok : ∀ n g a K, D72 n g a K -> callM C X0 n g a K := fun n => orC_ok (Z47_ok hX n) (D71_ok hX n)
abbrev Z7.a : List TS := [.a [.o (.int .i64), .o (.dat 90 (.int .u64))], .a [.o (.int .i64), .o (.dat 90 (.int .u64))]]
def Z7.u (n : Nat) (v : VA Z7.a) (K : RES -> Prop) : Prop := Z7.c n v.1.1 v.1.2.1 v.2.1.1 v.2.1.2.1 (fun r0 => K ⟨.c (.bool r0), []⟩)
theorem Z7_ok : ∀ n v K, Z7.u n v K -> callM C X0 n 88 (fillA Z7.a v) K :=
 call_tell hX (fn := Try.f88) (c := bodyOf Try.f88) (by kernel_rfl) (by kernel_rfl) (A := Z7.a) (u := Z7.u) (fun _ _ h => h) (call := D72) (lp := fun n => noL) (D72_ok hX) (fun n => noL_ok) (fun n v K => by kernel_rfl)
def D73 (n : Nat) : CallF := orC 88 Z7.a (Z7.u n) (D72 n)
theorem D73_ok : ∀ n g a K, D73 n g a K -> callM C X0 n g a K := fun n => orC_ok (Z7_ok hX n) (D72_ok hX n)
abbrev Z16.a : List TS := [.c (.o (.pdat 30 Y1 0)), .c (.o (.dat 44 Y7))]
def Z16.u (n : Nat) (v : VA Z16.a) (K : RES -> Prop) : Prop := Z16.c n v.1 v.2.1 (fun r0 => K ⟨.c (.bool r0), []⟩)
theorem Z16_ok : ∀ n v K, Z16.u n v K -> callM C X0 n 40 (fillA Z16.a v) K :=
 call_tell hX (fn := Try.f40) (c := bodyOf Try.f40) (by kernel_rfl) (by kernel_rfl) (A := Z16.a) (u := Z16.u) (fun _ _ h => h) (call := D73) (lp := fun n => noL) (D73_ok hX) (fun n => noL_ok) (fun n v K => by kernel_rfl)
def D74 (n : Nat) : CallF := orC 40 Z16.a (Z16.u n) (D73 n)
theorem D74_ok : ∀ n g a K, D74 n g a K -> callM C X0 n g a K := fun n => orC_ok (Z16_ok hX n) (D73_ok hX n)
abbrev Z15.a : List TS := [.a [.o (.int .i64), .o .bool, .o (.dat 79 Y3), .o (.dat 79 Y3)], .c (.o (.pdat 25 (.sl 44 Y7) 0))]
def Z15.u (n : Nat) (v : VA Z15.a) (K : RES -> Prop) : Prop := Z15.c n v.1.1 v.1.2.1 v.1.2.2.1 v.1.2.2.2.1 v.2.1 (fun r0 => K ⟨.c (.bool r0), []⟩)
theorem Z15_ok : ∀ n v K, Z15.u n v K -> callM C X0 n 42 (fillA Z15.a v) K :=
 call_tell hX (fn := Try.f42) (c := bodyOf Try.f42) (by kernel_rfl) (by kernel_rfl) (A := Z15.a) (u := Z15.u) (fun _ _ h => h) (call := D74) (lp := fun n => noL) (D74_ok hX) (fun n => noL_ok) (fun n v K => by kernel_rfl)
def D75 (n : Nat) : CallF := orC 42 Z15.a (Z15.u n) (D74 n)
theorem D75_ok : ∀ n g a K, D75 n g a K -> callM C X0 n g a K := fun n => orC_ok (Z15_ok hX n) (D74_ok hX n)
abbrev Z49.a : List TS := [.c (.o (.dat 30 Y1)), .c (.fn 42 [(false, 1)] 0 [.pdat 25 (.sl 44 Y7) 0])]
def Z49.u (n : Nat) (v : VA Z49.a) (K : RES -> Prop) : Prop := Z49.c n v.1 v.2.1.1 (fun r0 => K ⟨.c (.int .i64 r0), []⟩)
abbrev Z49.l2.s : ST := ⟨[(0, .c (.o (.dat 30 Y1))), (1, .c (.fn 42 [(false, 1)] 0 [.pdat 25 (.sl 44 Y7) 0])), (7, .c (.o (.int .i64))), (8, .c (.o (.int .i64)))], [], [], [], []⟩
def Z49.l2.u (n : Nat) (v : Z49.l2.s.V) (K : X -> St -> Prop) : Prop := Z49.l2 n v.1.1 v.1.2.1.1 v.1.2.2.1 v.1.2.2.2.1 (K (.exit 0) ⟨[], [], [], [], []⟩) (fun y0 => K .ret ⟨[(4, .c (.int .i64 y0))], [], [], [], []⟩)
theorem Z49.l2_ok : ∀ n v K, Z49.l2.u n v K -> loopM C X0 n 41 2 (Z49.l2.s.fill v) K :=
 loop_tell hX (fn := Try.f41) (c := bodyOf Try.f41) (a := loopOf Try.f41 2) (li := liOf (C.fi 41).loops 2) (by kernel_rfl) (by kernel_rfl) (of_decide_eq_true rfl) (by kernel_rfl) (by kernel_rfl) (T := Z49.l2.s) (u := Z49.l2.u) (fun _ _ h => h) (call := D75) (lp := fun n => noL) (D75_ok hX) (fun n => noL_ok) (fun n v K => by kernel_rfl)
theorem Z49_ok : ∀ n v K, Z49.u n v K -> callM C X0 n 41 (fillA Z49.a v) K :=
 call_tell hX (fn := Try.f41) (c := bodyOf Try.f41) (by kernel_rfl) (by kernel_rfl) (A := Z49.a) (u := Z49.u) (fun _ _ h => h) (call := D75) (lp := fun n => orL 2 Z49.l2.s (Z49.l2.u n) noL) (D75_ok hX) (fun n => (orL_ok (Z49.l2_ok hX n) noL_ok)) (fun n v K => by kernel_rfl)
def D76 (n : Nat) : CallF := orC 41 Z49.a (Z49.u n) (D75 n)
theorem D76_ok : ∀ n g a K, D76 n g a K -> callM C X0 n g a K := fun n => orC_ok (Z49_ok hX n) (D75_ok hX n)
abbrev Z14.a : List TS := [.c (.o (.dat 112 Y10)), .c (.o (.dat 44 Y7)), .c (.o (.dat 30 Y1))]
def Z14.u (n : Nat) (v : VA Z14.a) (K : RES -> Prop) : Prop := Z14.c n v.1 v.2.1 v.2.2.1 (fun r0 => K ⟨.c (.int .i64 r0), []⟩)
theorem Z14_ok : ∀ n v K, Z14.u n v K -> callM C X0 n 11 (fillA Z14.a v) K :=
 call_tell hX (fn := Try.f11) (c := bodyOf Try.f11) (by kernel_rfl) (by kernel_rfl) (A := Z14.a) (u := Z14.u) (fun _ _ h => h) (call := D76) (lp := fun n => noL) (D76_ok hX) (fun n => noL_ok) (fun n v K => by kernel_rfl)
def D77 (n : Nat) : CallF := orC 11 Z14.a (Z14.u n) (D76 n)
theorem D77_ok : ∀ n g a K, D77 n g a K -> callM C X0 n g a K := fun n => orC_ok (Z14_ok hX n) (D76_ok hX n)
abbrev Z85.a : List TS := [.c (.boxr 107 [.dat 5 (.int .u8), .int .i64])]
def Z85.u (n : Nat) (v : VA Z85.a) (K : RES -> Prop) : Prop := Z85.c n v.1.1 v.1.2.1 (fun r0 r1 r2 r3 => K ⟨.tup [.c (.row ⟨112, .prod .str (.int .i64), r0, 0, none⟩), .c (.row ⟨30, .prod (.int .i64) Y2, r1, 1, none⟩)], [[.boxr 107 [.dat 5 (.int .u8) r2, .int .i64 r3]]]⟩)
abbrev Z85.l5.s : ST := ⟨[(0, .c (.o (.pbox 0 0))), (4, .c (.o (.own 128))), (5, .c (.o (.int .i64)))], [⟨128, 112, .prod .str (.int .i64), 99⟩], [⟨0, 107, [.o (.dat 5 (.int .u8)), .o (.int .i64)], false⟩], [], [0]⟩
def Z85.l5.u (n : Nat) (v : Z85.l5.s.V) (K : X -> St -> Prop) : Prop := Z85.l5 n v.1.2.2.1 v.2.1.1 v.2.2.1.1 v.2.2.1.2.1 (fun y0 y1 y2 => K (.exit 0) ⟨[(0, .c (.pbox 0 0)), (4, .c (.own 128))], [(128, ⟨112, .prod .str (.int .i64), y0, 99, none⟩)], [(0, ⟨107, [.dat 5 (.int .u8) y1, .int .i64 y2], false⟩)], [], [0]⟩)
theorem Z85.l5_ok : ∀ n v K, Z85.l5.u n v K -> loopM C X0 n 62 5 (Z85.l5.s.fill v) K :=
 loop_tell hX (fn := Try.f62) (c := bodyOf Try.f62) (a := loopOf Try.f62 5) (li := liOf (C.fi 62).loops 5) (by kernel_rfl) (by kernel_rfl) (of_decide_eq_true rfl) (by kernel_rfl) (by kernel_rfl) (T := Z85.l5.s) (u := Z85.l5.u) (fun _ _ h => h) (call := D77) (lp := fun n => noL) (D77_ok hX) (fun n => noL_ok) (fun n v K => by kernel_rfl)
theorem Z85_ok : ∀ n v K, Z85.u n v K -> callM C X0 n 62 (fillA Z85.a v) K :=
 call_tell hX (fn := Try.f62) (c := bodyOf Try.f62) (by kernel_rfl) (by kernel_rfl) (A := Z85.a) (u := Z85.u) (fun _ _ h => h) (call := D77) (lp := fun n => orL 5 Z85.l5.s (Z85.l5.u n) noL) (D77_ok hX) (fun n => (orL_ok (Z85.l5_ok hX n) noL_ok)) (fun n v K => by kernel_rfl)
def D78 (n : Nat) : CallF := orC 62 Z85.a (Z85.u n) (D77 n)
theorem D78_ok : ∀ n g a K, D78 n g a K -> callM C X0 n g a K := fun n => orC_ok (Z85_ok hX n) (D77_ok hX n)
abbrev Z57.a : List TS := [.c (.o (.dat 5 (.int .u8)))]
def Z57.u (n : Nat) (v : VA Z57.a) (K : RES -> Prop) : Prop := Z57.c n v.1 (fun r0 r1 => K ⟨.tup [.c (.row ⟨112, .prod .str (.int .i64), r0, 0, none⟩), .c (.row ⟨30, .prod (.int .i64) Y2, r1, 1, none⟩)], []⟩)
theorem Z57_ok : ∀ n v K, Z57.u n v K -> callM C X0 n 23 (fillA Z57.a v) K :=
 call_tell hX (fn := Try.f23) (c := bodyOf Try.f23) (by kernel_rfl) (by kernel_rfl) (A := Z57.a) (u := Z57.u) (fun _ _ h => h) (call := D78) (lp := fun n => noL) (D78_ok hX) (fun n => noL_ok) (fun n v K => by kernel_rfl)
def D79 (n : Nat) : CallF := orC 23 Z57.a (Z57.u n) (D78 n)
theorem D79_ok : ∀ n g a K, D79 n g a K -> callM C X0 n g a K := fun n => orC_ok (Z57_ok hX n) (D78_ok hX n)
abbrev Z17.a : List TS := [.c (.o (.dat 112 Y10)), .c (.o (.dat 30 Y1))]
def Z17.u (n : Nat) (v : VA Z17.a) (K : RES -> Prop) : Prop := Z17.c n v.1 v.2.1 (fun r0 => K ⟨.c (.bool r0), []⟩)
theorem Z17_ok : ∀ n v K, Z17.u n v K -> callM C X0 n 101 (fillA Z17.a v) K :=
 call_tell hX (fn := Try.f101) (c := bodyOf Try.f101) (by kernel_rfl) (by kernel_rfl) (A := Z17.a) (u := Z17.u) (fun _ _ h => h) (call := D79) (lp := fun n => noL) (D79_ok hX) (fun n => noL_ok) (fun n v K => by kernel_rfl)
def D80 (n : Nat) : CallF := orC 101 Z17.a (Z17.u n) (D79 n)
theorem D80_ok : ∀ n g a K, D80 n g a K -> callM C X0 n g a K := fun n => orC_ok (Z17_ok hX n) (D79_ok hX n)
abbrev Z36.a : List TS := [.c (.o (.dat 112 Y10))]
def Z36.u (n : Nat) (v : VA Z36.a) (K : RES -> Prop) : Prop := Z36.c n v.1 (fun r0 => K ⟨.c (.int .i64 r0), []⟩)
abbrev Z36.l3.s : ST := ⟨[(3, .c (.o (.int .i64))), (6, .c (.o (.dat 112 Y10))), (7, .c (.o (.int .i64))), (8, .c (.o (.int .i64)))], [], [], [], []⟩
def Z36.l3.u (n : Nat) (v : Z36.l3.s.V) (K : X -> St -> Prop) : Prop := Z36.l3 n v.1.2.1 v.1.2.2.1 v.1.1 v.1.2.2.2.1 (fun y0 => K (.exit 0) ⟨[(3, .c (.int .i64 y0))], [], [], [], []⟩)
theorem Z36.l3_ok : ∀ n v K, Z36.l3.u n v K -> loopM C X0 n 102 3 (Z36.l3.s.fill v) K :=
 loop_tell hX (fn := Try.f102) (c := bodyOf Try.f102) (a := loopOf Try.f102 3) (li := liOf (C.fi 102).loops 3) (by kernel_rfl) (by kernel_rfl) (of_decide_eq_true rfl) (by kernel_rfl) (by kernel_rfl) (T := Z36.l3.s) (u := Z36.l3.u) (fun _ _ h => h) (call := D80) (lp := fun n => noL) (D80_ok hX) (fun n => noL_ok) (fun n v K => by kernel_rfl)
theorem Z36_ok : ∀ n v K, Z36.u n v K -> callM C X0 n 102 (fillA Z36.a v) K :=
 call_tell hX (fn := Try.f102) (c := bodyOf Try.f102) (by kernel_rfl) (by kernel_rfl) (A := Z36.a) (u := Z36.u) (fun _ _ h => h) (call := D80) (lp := fun n => orL 3 Z36.l3.s (Z36.l3.u n) noL) (D80_ok hX) (fun n => (orL_ok (Z36.l3_ok hX n) noL_ok)) (fun n v K => by kernel_rfl)
def D81 (n : Nat) : CallF := orC 102 Z36.a (Z36.u n) (D80 n)
theorem D81_ok : ∀ n g a K, D81 n g a K -> callM C X0 n g a K := fun n => orC_ok (Z36_ok hX n) (D80_ok hX n)
abbrev Z25.a : List TS := [.c (.o (.dat 112 Y10)), .c (.o (.dat 30 Y1))]
def Z25.u (n : Nat) (v : VA Z25.a) (K : RES -> Prop) : Prop := Z25.c n v.1 v.2.1 (fun r0 => K ⟨.c (.bool r0), []⟩)
theorem Z25_ok : ∀ n v K, Z25.u n v K -> callM C X0 n 63 (fillA Z25.a v) K :=
 call_tell hX (fn := Try.f63) (c := bodyOf Try.f63) (by kernel_rfl) (by kernel_rfl) (A := Z25.a) (u := Z25.u) (fun _ _ h => h) (call := D81) (lp := fun n => noL) (D81_ok hX) (fun n => noL_ok) (fun n v K => by kernel_rfl)
def D82 (n : Nat) : CallF := orC 63 Z25.a (Z25.u n) (D81 n)
theorem D82_ok : ∀ n g a K, D82 n g a K -> callM C X0 n g a K := fun n => orC_ok (Z25_ok hX n) (D81_ok hX n)
abbrev Z0.a : List TS := [.c (.o (.int .i64)), .c (.o (.int .i64))]
def Z0.u (n : Nat) (v : VA Z0.a) (K : RES -> Prop) : Prop := Z0.c n v.1 v.2.1 (fun r0 r1 r2 => K ⟨.tup [.agg [.int .i64 r0, .row ⟨90, .int .u64, r1, 99, none⟩], .c (.bool r2)], []⟩)
theorem Z0_ok : ∀ n v K, Z0.u n v K -> callM C X0 n 107 (fillA Z0.a v) K :=
 call_tell hX (fn := Try.f107) (c := bodyOf Try.f107) (by kernel_rfl) (by kernel_rfl) (A := Z0.a) (u := Z0.u) (fun _ _ h => h) (call := D82) (lp := fun n => noL) (D82_ok hX) (fun n => noL_ok) (fun n v K => by kernel_rfl)
def D83 (n : Nat) : CallF := orC 107 Z0.a (Z0.u n) (D82 n)
theorem D83_ok : ∀ n g a K, D83 n g a K -> callM C X0 n g a K := fun n => orC_ok (Z0_ok hX n) (D82_ok hX n)
abbrev Z35.a : List TS := [.c (.o (.dat 112 Y10)), .c (.o (.int .i64))]
def Z35.u (n : Nat) (v : VA Z35.a) (K : RES -> Prop) : Prop := Z35.c n v.1 v.2.1 (fun r0 => K ⟨.c (.row ⟨44, .prod (.int .i64) (.sl 90 (.int .u64)), r0, 99, none⟩), []⟩)
abbrev Z35.l3.s : ST := ⟨[(0, .c (.o (.dat 112 Y10))), (1, .c (.o (.int .i64))), (5, .c (.o (.own 320))), (6, .c (.o (.int .i64)))], [⟨320, 44, .prod (.int .i64) (.sl 90 (.int .u64)), 99⟩], [], [], []⟩
def Z35.l3.u (n : Nat) (v : Z35.l3.s.V) (K : X -> St -> Prop) : Prop := Z35.l3 n v.1.1 v.1.2.1 v.1.2.2.2.1 v.2.1.1 (fun y0 => K (.exit 0) ⟨[(5, .c (.own 320))], [(320, ⟨44, .prod (.int .i64) (.sl 90 (.int .u64)), y0, 99, none⟩)], [], [], []⟩)
theorem Z35.l3_ok : ∀ n v K, Z35.l3.u n v K -> loopM C X0 n 70 3 (Z35.l3.s.fill v) K :=
 loop_tell hX (fn := Try.f70) (c := bodyOf Try.f70) (a := loopOf Try.f70 3) (li := liOf (C.fi 70).loops 3) (by kernel_rfl) (by kernel_rfl) (of_decide_eq_true rfl) (by kernel_rfl) (by kernel_rfl) (T := Z35.l3.s) (u := Z35.l3.u) (fun _ _ h => h) (call := D83) (lp := fun n => noL) (D83_ok hX) (fun n => noL_ok) (fun n v K => by kernel_rfl)
theorem Z35_ok : ∀ n v K, Z35.u n v K -> callM C X0 n 70 (fillA Z35.a v) K :=
 call_tell hX (fn := Try.f70) (c := bodyOf Try.f70) (by kernel_rfl) (by kernel_rfl) (A := Z35.a) (u := Z35.u) (fun _ _ h => h) (call := D83) (lp := fun n => orL 3 Z35.l3.s (Z35.l3.u n) noL) (D83_ok hX) (fun n => (orL_ok (Z35.l3_ok hX n) noL_ok)) (fun n v K => by kernel_rfl)
def D84 (n : Nat) : CallF := orC 70 Z35.a (Z35.u n) (D83 n)
theorem D84_ok : ∀ n g a K, D84 n g a K -> callM C X0 n g a K := fun n => orC_ok (Z35_ok hX n) (D83_ok hX n)
abbrev Z31.a : List TS := [.a [.o (.int .i64), .o .bool, .o (.dat 79 Y3), .o (.dat 79 Y3)], .c (.o (.pdat 25 (.sl 44 Y7) 0))]
def Z31.u (n : Nat) (v : VA Z31.a) (K : RES -> Prop) : Prop := Z31.c n v.1.1 v.1.2.1 v.1.2.2.1 v.1.2.2.2.1 v.2.1 (fun r0 => K ⟨.c (.bool r0), []⟩)
theorem Z31_ok : ∀ n v K, Z31.u n v K -> callM C X0 n 104 (fillA Z31.a v) K :=
 call_tell hX (fn := Try.f104) (c := bodyOf Try.f104) (by kernel_rfl) (by kernel_rfl) (A := Z31.a) (u := Z31.u) (fun _ _ h => h) (call := D84) (lp := fun n => noL) (D84_ok hX) (fun n => noL_ok) (fun n v K => by kernel_rfl)
def D85 (n : Nat) : CallF := orC 104 Z31.a (Z31.u n) (D84 n)
theorem D85_ok : ∀ n g a K, D85 n g a K -> callM C X0 n g a K := fun n => orC_ok (Z31_ok hX n) (D84_ok hX n)
abbrev Z50.a : List TS := [.c (.o (.dat 30 Y1)), .c (.fn 104 [(false, 1)] 0 [.pdat 25 (.sl 44 Y7) 0])]
def Z50.u (n : Nat) (v : VA Z50.a) (K : RES -> Prop) : Prop := Z50.c n v.1 v.2.1.1 (fun r0 => K ⟨.c (.int .i64 r0), []⟩)
abbrev Z50.l2.s : ST := ⟨[(0, .c (.o (.dat 30 Y1))), (1, .c (.fn 104 [(false, 1)] 0 [.pdat 25 (.sl 44 Y7) 0])), (7, .c (.o (.int .i64))), (8, .c (.o (.int .i64)))], [], [], [], []⟩
def Z50.l2.u (n : Nat) (v : Z50.l2.s.V) (K : X -> St -> Prop) : Prop := Z50.l2 n v.1.1 v.1.2.1.1 v.1.2.2.1 v.1.2.2.2.1 (K (.exit 0) ⟨[], [], [], [], []⟩) (fun y0 => K .ret ⟨[(4, .c (.int .i64 y0))], [], [], [], []⟩)
theorem Z50.l2_ok : ∀ n v K, Z50.l2.u n v K -> loopM C X0 n 41 2 (Z50.l2.s.fill v) K :=
 loop_tell hX (fn := Try.f41) (c := bodyOf Try.f41) (a := loopOf Try.f41 2) (li := liOf (C.fi 41).loops 2) (by kernel_rfl) (by kernel_rfl) (of_decide_eq_true rfl) (by kernel_rfl) (by kernel_rfl) (T := Z50.l2.s) (u := Z50.l2.u) (fun _ _ h => h) (call := D85) (lp := fun n => noL) (D85_ok hX) (fun n => noL_ok) (fun n v K => by kernel_rfl)
theorem Z50_ok : ∀ n v K, Z50.u n v K -> callM C X0 n 41 (fillA Z50.a v) K :=
 call_tell hX (fn := Try.f41) (c := bodyOf Try.f41) (by kernel_rfl) (by kernel_rfl) (A := Z50.a) (u := Z50.u) (fun _ _ h => h) (call := D85) (lp := fun n => orL 2 Z50.l2.s (Z50.l2.u n) noL) (D85_ok hX) (fun n => (orL_ok (Z50.l2_ok hX n) noL_ok)) (fun n v K => by kernel_rfl)
def D86 (n : Nat) : CallF := orC 41 Z50.a (Z50.u n) (D85 n)
theorem D86_ok : ∀ n g a K, D86 n g a K -> callM C X0 n g a K := fun n => orC_ok (Z50_ok hX n) (D85_ok hX n)
abbrev Z45.a : List TS := [.c (.o (.dat 30 Y1)), .c (.fn 104 [(false, 1)] 0 [.pdat 25 (.sl 44 Y7) 0])]
def Z45.u (n : Nat) (v : VA Z45.a) (K : RES -> Prop) : Prop := Z45.c n v.1 v.2.1.1 (fun r0 => K ⟨.c (.bool r0), []⟩)
theorem Z45_ok : ∀ n v K, Z45.u n v K -> callM C X0 n 103 (fillA Z45.a v) K :=
 call_tell hX (fn := Try.f103) (c := bodyOf Try.f103) (by kernel_rfl) (by kernel_rfl) (A := Z45.a) (u := Z45.u) (fun _ _ h => h) (call := D86) (lp := fun n => noL) (D86_ok hX) (fun n => noL_ok) (fun n v K => by kernel_rfl)
def D87 (n : Nat) : CallF := orC 103 Z45.a (Z45.u n) (D86 n)
theorem D87_ok : ∀ n g a K, D87 n g a K -> callM C X0 n g a K := fun n => orC_ok (Z45_ok hX n) (D86_ok hX n)
abbrev Z12.a : List TS := [.c (.o (.int .i64)), .c (.boxr 2 [.int .i64])]
def Z12.u (n : Nat) (v : VA Z12.a) (K : RES -> Prop) : Prop := Z12.c n v.1 v.2.1.1 (fun r0 r1 => K ⟨.c (.bool r0), [[.boxr 2 [.int .i64 r1]]]⟩)
theorem Z12_ok : ∀ n v K, Z12.u n v K -> callM C X0 n 65 (fillA Z12.a v) K :=
 call_tell hX (fn := Try.f65) (c := bodyOf Try.f65) (by kernel_rfl) (by kernel_rfl) (A := Z12.a) (u := Z12.u) (fun _ _ h => h) (call := D87) (lp := fun n => noL) (D87_ok hX) (fun n => noL_ok) (fun n v K => by kernel_rfl)
def D88 (n : Nat) : CallF := orC 65 Z12.a (Z12.u n) (D87 n)
theorem D88_ok : ∀ n g a K, D88 n g a K -> callM C X0 n g a K := fun n => orC_ok (Z12_ok hX n) (D87_ok hX n)
abbrev Z32.a : List TS := [.c (.o (.dat 112 Y10)), .c (.o (.dat 30 Y1)), .k 65 0 [.boxr 2 [.int .i64]]]
def Z32.u (n : Nat) (v : VA Z32.a) (K : RES -> Prop) : Prop := Z32.c n v.1 v.2.1 v.2.2.1.1.1 (fun r0 => K ⟨.tup [], [[.boxr 2 [.int .i64 r0]]]⟩)
abbrev Z32.l1.s : ST := ⟨[(0, .c (.o (.dat 112 Y10))), (1, .c (.o (.dat 30 Y1))), (2, .c (.fn 65 [(false, 1)] 0 [.pbox 1002 0])), (10, .c (.o (.int .i64))), (11, .c (.o (.int .i64)))], [], [⟨1002, 2, [.o (.int .i64)], false⟩], [], [1002]⟩
def Z32.l1.u (n : Nat) (v : Z32.l1.s.V) (K : X -> St -> Prop) : Prop := Z32.l1 n v.1.1 v.1.2.1 v.1.2.2.2.1 v.1.2.2.2.2.1 v.2.2.1.1 (fun y0 => K (.exit 0) ⟨[], [], [(1002, ⟨2, [.int .i64 y0], false⟩)], [], [1002]⟩) (fun y0 => K .ret ⟨[], [], [(1002, ⟨2, [.int .i64 y0], false⟩)], [], [1002]⟩)
theorem Z32.l1_ok : ∀ n v K, Z32.l1.u n v K -> loopM C X0 n 64 1 (Z32.l1.s.fill v) K :=
 loop_tell hX (fn := Try.f64) (c := bodyOf Try.f64) (a := loopOf Try.f64 1) (li := liOf (C.fi 64).loops 1) (by kernel_rfl) (by kernel_rfl) (of_decide_eq_true rfl) (by kernel_rfl) (by kernel_rfl) (T := Z32.l1.s) (u := Z32.l1.u) (fun _ _ h => h) (call := D88) (lp := fun n => noL) (D88_ok hX) (fun n => noL_ok) (fun n v K => by kernel_rfl)
theorem Z32_ok : ∀ n v K, Z32.u n v K -> callM C X0 n 64 (fillA Z32.a v) K :=
 call_tell hX (fn := Try.f64) (c := bodyOf Try.f64) (by kernel_rfl) (by kernel_rfl) (A := Z32.a) (u := Z32.u) (fun _ _ h => h) (call := D88) (lp := fun n => orL 1 Z32.l1.s (Z32.l1.u n) noL) (D88_ok hX) (fun n => (orL_ok (Z32.l1_ok hX n) noL_ok)) (fun n v K => by kernel_rfl)
def D89 (n : Nat) : CallF := orC 64 Z32.a (Z32.u n) (D88 n)
theorem D89_ok : ∀ n g a K, D89 n g a K -> callM C X0 n g a K := fun n => orC_ok (Z32_ok hX n) (D88_ok hX n)
abbrev Z11.a : List TS := [.c (.o (.dat 112 Y10)), .c (.o (.dat 30 Y1))]
def Z11.u (n : Nat) (v : VA Z11.a) (K : RES -> Prop) : Prop := Z11.c n v.1 v.2.1 (fun r0 => K ⟨.c (.int .i64 r0), []⟩)
theorem Z11_ok : ∀ n v K, Z11.u n v K -> callM C X0 n 24 (fillA Z11.a v) K :=
 call_tell hX (fn := Try.f24) (c := bodyOf Try.f24) (by kernel_rfl) (by kernel_rfl) (A := Z11.a) (u := Z11.u) (fun _ _ h => h) (call := D89) (lp := fun n => noL) (D89_ok hX) (fun n => noL_ok) (fun n v K => by kernel_rfl)
def D90 (n : Nat) : CallF := orC 24 Z11.a (Z11.u n) (D89 n)
theorem D90_ok : ∀ n g a K, D90 n g a K -> callM C X0 n g a K := fun n => orC_ok (Z11_ok hX n) (D89_ok hX n)
abbrev Z65.a : List TS := [.c (.o (.dat 112 Y10))]
def Z65.u (n : Nat) (v : VA Z65.a) (K : RES -> Prop) : Prop := Z65.c n v.1 (fun r0 r1 => K ⟨.tup [.c (.row ⟨2, .int .i64, r0, 99, none⟩), .c (.int .i64 r1)], []⟩)
abbrev Z65.l4.s : ST := ⟨[(0, .c (.o (.dat 112 Y10))), (4, .c (.o (.own 128))), (5, .c (.o (.int .i64))), (6, .c (.o (.int .i64)))], [⟨128, 2, .int .i64, 99⟩], [], [], []⟩
def Z65.l4.u (n : Nat) (v : Z65.l4.s.V) (K : X -> St -> Prop) : Prop := Z65.l4 n v.1.1 v.1.2.2.1 v.1.2.2.2.1 v.2.1.1 (fun y0 y1 => K (.exit 0) ⟨[(4, .c (.own 128)), (5, .c (.int .i64 y0))], [(128, ⟨2, .int .i64, y1, 99, none⟩)], [], [], []⟩)
theorem Z65.l4_ok : ∀ n v K, Z65.l4.u n v K -> loopM C X0 n 105 4 (Z65.l4.s.fill v) K :=
 loop_tell hX (fn := Try.f105) (c := bodyOf Try.f105) (a := loopOf Try.f105 4) (li := liOf (C.fi 105).loops 4) (by kernel_rfl) (by kernel_rfl) (of_decide_eq_true rfl) (by kernel_rfl) (by kernel_rfl) (T := Z65.l4.s) (u := Z65.l4.u) (fun _ _ h => h) (call := D90) (lp := fun n => noL) (D90_ok hX) (fun n => noL_ok) (fun n v K => by kernel_rfl)
theorem Z65_ok : ∀ n v K, Z65.u n v K -> callM C X0 n 105 (fillA Z65.a v) K :=
 call_tell hX (fn := Try.f105) (c := bodyOf Try.f105) (by kernel_rfl) (by kernel_rfl) (A := Z65.a) (u := Z65.u) (fun _ _ h => h) (call := D90) (lp := fun n => orL 4 Z65.l4.s (Z65.l4.u n) noL) (D90_ok hX) (fun n => (orL_ok (Z65.l4_ok hX n) noL_ok)) (fun n v K => by kernel_rfl)
def D91 (n : Nat) : CallF := orC 105 Z65.a (Z65.u n) (D90 n)
theorem D91_ok : ∀ n g a K, D91 n g a K -> callM C X0 n g a K := fun n => orC_ok (Z65_ok hX n) (D90_ok hX n)
abbrev Z87.a : List TS := [.c (.o (.dat 112 Y10)), .c (.o (.dat 30 Y1))]
def Z87.u (n : Nat) (v : VA Z87.a) (K : RES -> Prop) : Prop := Z87.c n v.1 v.2.1 (fun r0 => K ⟨.c (.int .i64 r0), []⟩)
theorem Z87_ok : ∀ n v K, Z87.u n v K -> callM C X0 n 66 (fillA Z87.a v) K :=
 call_tell hX (fn := Try.f66) (c := bodyOf Try.f66) (by kernel_rfl) (by kernel_rfl) (A := Z87.a) (u := Z87.u) (fun _ _ h => h) (call := D91) (lp := fun n => noL) (D91_ok hX) (fun n => noL_ok) (fun n v K => by kernel_rfl)
def D92 (n : Nat) : CallF := orC 66 Z87.a (Z87.u n) (D91 n)
theorem D92_ok : ∀ n g a K, D92 n g a K -> callM C X0 n g a K := fun n => orC_ok (Z87_ok hX n) (D91_ok hX n)
abbrev Z52.a : List TS := [.c (.o (.int .i64)), .c (.o (.int .i64))]
def Z52.u (n : Nat) (v : VA Z52.a) (K : RES -> Prop) : Prop := Z52.c n v.1 v.2.1 (fun r0 r1 r2 => K ⟨.tup [.agg [.int .i64 r0, .row ⟨90, .int .u64, r1, 99, none⟩], .c (.bool r2)], []⟩)
abbrev Z52.l5.s : ST := ⟨[(0, .c (.o (.int .i64))), (1, .c (.o (.int .i64))), (4, .c (.o (.pbox 4 0))), (6, .c (.o (.own 192))), (7, .c (.o (.int .i64)))], [⟨192, 5, .int .u8, 99⟩, ⟨1000129, 90, .int .u64, 99⟩], [⟨4, 44, [.o (.int .i64), .o (.own 1000129)], false⟩], [], []⟩
def Z52.l5.u (n : Nat) (v : Z52.l5.s.V) (K : X -> St -> Prop) : Prop := Z52.l5 n v.1.1 v.2.1.2.1 v.2.2.1.1 v.1.2.1 v.1.2.2.2.2.1 v.2.1.1 (fun y0 y1 y2 y3 => K (.exit 0) ⟨[(1, .c (.int .i64 y0)), (4, .c (.pbox 4 0)), (6, .c (.own 192))], [(192, ⟨5, .int .u8, y1, 99, none⟩), (1000129, ⟨90, .int .u64, y2, 99, none⟩)], [(4, ⟨44, [.int .i64 y3, .own 1000129], false⟩)], [], []⟩)
theorem Z52.l5_ok : ∀ n v K, Z52.l5.u n v K -> loopM C X0 n 106 5 (Z52.l5.s.fill v) K :=
 loop_tell hX (fn := Try.f106) (c := bodyOf Try.f106) (a := loopOf Try.f106 5) (li := liOf (C.fi 106).loops 5) (by kernel_rfl) (by kernel_rfl) (of_decide_eq_true rfl) (by kernel_rfl) (by kernel_rfl) (T := Z52.l5.s) (u := Z52.l5.u) (fun _ _ h => h) (call := D92) (lp := fun n => noL) (D92_ok hX) (fun n => noL_ok) (fun n v K => by kernel_rfl)
theorem Z52_ok : ∀ n v K, Z52.u n v K -> callM C X0 n 106 (fillA Z52.a v) K :=
 call_tell hX (fn := Try.f106) (c := bodyOf Try.f106) (by kernel_rfl) (by kernel_rfl) (A := Z52.a) (u := Z52.u) (fun _ _ h => h) (call := D92) (lp := fun n => orL 5 Z52.l5.s (Z52.l5.u n) noL) (D92_ok hX) (fun n => (orL_ok (Z52.l5_ok hX n) noL_ok)) (fun n v K => by kernel_rfl)
def D93 (n : Nat) : CallF := orC 106 Z52.a (Z52.u n) (D92 n)
theorem D93_ok : ∀ n g a K, D93 n g a K -> callM C X0 n g a K := fun n => orC_ok (Z52_ok hX n) (D92_ok hX n)
abbrev Z86.a : List TS := [.c (.o (.dat 112 Y10)), .c (.o (.int .i64))]
def Z86.u (n : Nat) (v : VA Z86.a) (K : RES -> Prop) : Prop := Z86.c n v.1 v.2.1 (fun r0 => K ⟨.c (.row ⟨44, .prod (.int .i64) (.sl 90 (.int .u64)), r0, 99, none⟩), []⟩)
abbrev Z86.l3.s : ST := ⟨[(0, .c (.o (.dat 112 Y10))), (1, .c (.o (.int .i64))), (5, .c (.o (.own 320))), (6, .c (.o (.int .i64)))], [⟨320, 44, .prod (.int .i64) (.sl 90 (.int .u64)), 99⟩], [], [], []⟩
def Z86.l3.u (n : Nat) (v : Z86.l3.s.V) (K : X -> St -> Prop) : Prop := Z86.l3 n v.1.1 v.1.2.1 v.1.2.2.2.1 v.2.1.1 (fun y0 => K (.exit 0) ⟨[(5, .c (.own 320))], [(320, ⟨44, .prod (.int .i64) (.sl 90 (.int .u64)), y0, 99, none⟩)], [], [], []⟩)
theorem Z86.l3_ok : ∀ n v K, Z86.l3.u n v K -> loopM C X0 n 68 3 (Z86.l3.s.fill v) K :=
 loop_tell hX (fn := Try.f68) (c := bodyOf Try.f68) (a := loopOf Try.f68 3) (li := liOf (C.fi 68).loops 3) (by kernel_rfl) (by kernel_rfl) (of_decide_eq_true rfl) (by kernel_rfl) (by kernel_rfl) (T := Z86.l3.s) (u := Z86.l3.u) (fun _ _ h => h) (call := D93) (lp := fun n => noL) (D93_ok hX) (fun n => noL_ok) (fun n v K => by kernel_rfl)
theorem Z86_ok : ∀ n v K, Z86.u n v K -> callM C X0 n 68 (fillA Z86.a v) K :=
 call_tell hX (fn := Try.f68) (c := bodyOf Try.f68) (by kernel_rfl) (by kernel_rfl) (A := Z86.a) (u := Z86.u) (fun _ _ h => h) (call := D93) (lp := fun n => orL 3 Z86.l3.s (Z86.l3.u n) noL) (D93_ok hX) (fun n => (orL_ok (Z86.l3_ok hX n) noL_ok)) (fun n v K => by kernel_rfl)
def D94 (n : Nat) : CallF := orC 68 Z86.a (Z86.u n) (D93 n)
theorem D94_ok : ∀ n g a K, D94 n g a K -> callM C X0 n g a K := fun n => orC_ok (Z86_ok hX n) (D93_ok hX n)
abbrev Z84.a : List TS := [.c (.o (.dat 44 Y7)), .c (.o (.dat 30 Y1))]
def Z84.u (n : Nat) (v : VA Z84.a) (K : RES -> Prop) : Prop := Z84.c n v.1 v.2.1 (fun r0 => K ⟨.c (.bool r0), []⟩)
abbrev Z84.l2.s : ST := ⟨[(0, .c (.o (.dat 44 Y7))), (1, .c (.o (.dat 30 Y1))), (5, .c (.o (.int .i64)))], [], [], [], []⟩
def Z84.l2.u (n : Nat) (v : Z84.l2.s.V) (K : X -> St -> Prop) : Prop := Z84.l2 n v.1.1 v.1.2.1 v.1.2.2.1 (K (.exit 0) ⟨[], [], [], [], []⟩) (fun y0 => K .ret ⟨[(4, .c (.bool y0))], [], [], [], []⟩)
theorem Z84.l2_ok : ∀ n v K, Z84.l2.u n v K -> loopM C X0 n 67 2 (Z84.l2.s.fill v) K :=
 loop_tell hX (fn := Try.f67) (c := bodyOf Try.f67) (a := loopOf Try.f67 2) (li := liOf (C.fi 67).loops 2) (by kernel_rfl) (by kernel_rfl) (of_decide_eq_true rfl) (by kernel_rfl) (by kernel_rfl) (T := Z84.l2.s) (u := Z84.l2.u) (fun _ _ h => h) (call := D94) (lp := fun n => noL) (D94_ok hX) (fun n => noL_ok) (fun n v K => by kernel_rfl)
theorem Z84_ok : ∀ n v K, Z84.u n v K -> callM C X0 n 67 (fillA Z84.a v) K :=
 call_tell hX (fn := Try.f67) (c := bodyOf Try.f67) (by kernel_rfl) (by kernel_rfl) (A := Z84.a) (u := Z84.u) (fun _ _ h => h) (call := D94) (lp := fun n => orL 2 Z84.l2.s (Z84.l2.u n) noL) (D94_ok hX) (fun n => (orL_ok (Z84.l2_ok hX n) noL_ok)) (fun n v K => by kernel_rfl)
def D95 (n : Nat) : CallF := orC 67 Z84.a (Z84.u n) (D94 n)
theorem D95_ok : ∀ n g a K, D95 n g a K -> callM C X0 n g a K := fun n => orC_ok (Z84_ok hX n) (D94_ok hX n)
abbrev Z55.a : List TS := [.c (.o (.dat 112 Y10)), .c (.o (.dat 30 Y1))]
def Z55.u (n : Nat) (v : VA Z55.a) (K : RES -> Prop) : Prop := Z55.c n v.1 v.2.1 (fun r0 => K ⟨.c (.int .i64 r0), []⟩)
abbrev Z55.l6.s : ST := ⟨[(0, .c (.o (.dat 112 Y10))), (1, .c (.o (.dat 30 Y1))), (5, .c (.o (.int .i64))), (6, .c (.o (.int .i64))), (7, .c (.o (.int .i64)))], [], [], [], []⟩
def Z55.l6.u (n : Nat) (v : Z55.l6.s.V) (K : X -> St -> Prop) : Prop := Z55.l6 n v.1.1 v.1.2.1 v.1.2.2.1 v.1.2.2.2.1 v.1.2.2.2.2.1 (fun y0 => K (.exit 0) ⟨[(6, .c (.int .i64 y0))], [], [], [], []⟩)
theorem Z55.l6_ok : ∀ n v K, Z55.l6.u n v K -> loopM C X0 n 25 6 (Z55.l6.s.fill v) K :=
 loop_tell hX (fn := Try.f25) (c := bodyOf Try.f25) (a := loopOf Try.f25 6) (li := liOf (C.fi 25).loops 6) (by kernel_rfl) (by kernel_rfl) (of_decide_eq_true rfl) (by kernel_rfl) (by kernel_rfl) (T := Z55.l6.s) (u := Z55.l6.u) (fun _ _ h => h) (call := D95) (lp := fun n => noL) (D95_ok hX) (fun n => noL_ok) (fun n v K => by kernel_rfl)
theorem Z55_ok : ∀ n v K, Z55.u n v K -> callM C X0 n 25 (fillA Z55.a v) K :=
 call_tell hX (fn := Try.f25) (c := bodyOf Try.f25) (by kernel_rfl) (by kernel_rfl) (A := Z55.a) (u := Z55.u) (fun _ _ h => h) (call := D95) (lp := fun n => orL 6 Z55.l6.s (Z55.l6.u n) noL) (D95_ok hX) (fun n => (orL_ok (Z55.l6_ok hX n) noL_ok)) (fun n v K => by kernel_rfl)
def D96 (n : Nat) : CallF := orC 25 Z55.a (Z55.u n) (D95 n)
theorem D96_ok : ∀ n g a K, D96 n g a K -> callM C X0 n g a K := fun n => orC_ok (Z55_ok hX n) (D95_ok hX n)
end
end Go.Vsi
end

section
set_option linter.unusedVariables false
namespace Go.Vsi
open Go.Proofs
section
variable {X0 : CallF} (hX : CallF.Mono X0)
include hX
abbrev Z19.a : List TS := [.c (.o (.int .i64)), .c (.boxr 2 [.int .i64]), .c (.boxr 2 [.int .i64])]
def Z19.u (n : Nat) (v : VA Z19.a) (K : RES -> Prop) : Prop := Z19.c n v.1 v.2.1.1 v.2.2.1.1 (fun r0 r1 r2 => K ⟨.c (.bool r0), [[.boxr 2 [.int .i64 r1]], [.boxr 2 [.int .i64 r2]]]⟩)
theorem Z19_ok : ∀ n v K, Z19.u n v K -> callM C X0 n 69 (fillA Z19.a v) K :=
 call_tell hX (fn := Try.f69) (c := bodyOf Try.f69) (by kernel_rfl) (by kernel_rfl) (A := Z19.a) (u := Z19.u) (fun _ _ h => h) (call := D96) (lp := fun n => noL) (D96_ok hX) (fun n => noL_ok) (fun n v K => by kernel_rfl)
def D97 (n : Nat) : CallF := orC 69 Z19.a (Z19.u n) (D96 n)
theorem D97_ok : ∀ n g a K, D97 n g a K -> callM C X0 n g a K := fun n => orC_ok (Z19_ok hX n) (D96_ok hX n)
abbrev Z33.a : List TS := [.c (.o (.dat 112 Y10)), .c (.o (.dat 30 Y1)), .k 69 0 [.boxr 2 [.int .i64], .boxr 2 [.int .i64]]]
def Z33.u (n : Nat) (v : VA Z33.a) (K : RES -> Prop) : Prop := Z33.c n v.1 v.2.1 v.2.2.1.1.1 v.2.2.1.2.1.1 (fun r0 r1 => K ⟨.tup [], [[.boxr 2 [.int .i64 r0], .boxr 2 [.int .i64 r1]]]⟩)
abbrev Z33.l1.s : ST := ⟨[(0, .c (.o (.dat 112 Y10))), (1, .c (.o (.dat 30 Y1))), (2, .c (.fn 69 [(false, 1), (false, 1)] 0 [.pbox 1002 0, .pbox 2002 0])), (10, .c (.o (.int .i64))), (11, .c (.o (.int .i64)))], [], [⟨1002, 2, [.o (.int .i64)], false⟩, ⟨2002, 2, [.o (.int .i64)], false⟩], [], [2002, 1002]⟩
def Z33.l1.u (n : Nat) (v : Z33.l1.s.V) (K : X -> St -> Prop) : Prop := Z33.l1 n v.1.1 v.1.2.1 v.1.2.2.2.1 v.1.2.2.2.2.1 v.2.2.1.1 v.2.2.2.1.1 (fun y0 y1 => K (.exit 0) ⟨[], [], [(1002, ⟨2, [.int .i64 y0], false⟩), (2002, ⟨2, [.int .i64 y1], false⟩)], [], [2002, 1002]⟩) (fun y0 y1 => K .ret ⟨[], [], [(1002, ⟨2, [.int .i64 y0], false⟩), (2002, ⟨2, [.int .i64 y1], false⟩)], [], [2002, 1002]⟩)
theorem Z33.l1_ok : ∀ n v K, Z33.l1.u n v K -> loopM C X0 n 64 1 (Z33.l1.s.fill v) K :=
 loop_tell hX (fn := Try.f64) (c := bodyOf Try.f64) (a := loopOf Try.f64 1) (li := liOf (C.fi 64).loops 1) (by kernel_rfl) (by kernel_rfl) (of_decide_eq_true rfl) (by kernel_rfl) (by kernel_rfl) (T := Z33.l1.s) (u := Z33.l1.u) (fun _ _ h => h) (call := D97) (lp := fun n => noL) (D97_ok hX) (fun n => noL_ok) (fun n v K => by kernel_rfl)
theorem Z33_ok : ∀ n v K, Z33.u n v K -> callM C X0 n 64 (fillA Z33.a v) K :=
 call_tell hX (fn := Try.f64) (c := bodyOf Try.f64) (by kernel_rfl) (by kernel_rfl) (A := Z33.a) (u := Z33.u) (fun _ _ h => h) (call := D97) (lp := fun n => orL 1 Z33.l1.s (Z33.l1.u n) noL) (D97_ok hX) (fun n => (orL_ok (Z33.l1_ok hX n) noL_ok)) (fun n v K => by kernel_rfl)
def D98 (n : Nat) : CallF := orC 64 Z33.a (Z33.u n) (D97 n)
theorem D98_ok : ∀ n g a K, D98 n g a K -> callM C X0 n g a K := fun n => orC_ok (Z33_ok hX n) (D97_ok hX n)
abbrev Z18.a : List TS := [.c (.o (.dat 112 Y10)), .c (.o (.dat 30 Y1)), .c (.o (.int .i64))]
def Z18.u (n : Nat) (v : VA Z18.a) (K : RES -> Prop) : Prop := Z18.c n v.1 v.2.1 v.2.2.1 (fun r0 r1 => K ⟨.tup [.c (.row ⟨44, .prod (.int .i64) (.sl 90 (.int .u64)), r0, 99, none⟩), .c (.bool r1)], []⟩)
theorem Z18_ok : ∀ n v K, Z18.u n v K -> callM C X0 n 26 (fillA Z18.a v) K :=
 call_tell hX (fn := Try.f26) (c := bodyOf Try.f26) (by kernel_rfl) (by kernel_rfl) (A := Z18.a) (u := Z18.u) (fun _ _ h => h) (call := D98) (lp := fun n => noL) (D98_ok hX) (fun n => noL_ok) (fun n v K => by kernel_rfl)
def D99 (n : Nat) : CallF := orC 26 Z18.a (Z18.u n) (D98 n)
theorem D99_ok : ∀ n g a K, D99 n g a K -> callM C X0 n g a K := fun n => orC_ok (Z18_ok hX n) (D98_ok hX n)
abbrev Z43.a : List TS := [.a [.o (.int .i64), .o (.dat 90 (.int .u64))]]
def Z43.u (n : Nat) (v : VA Z43.a) (K : RES -> Prop) : Prop := Z43.c n v.1.1 v.1.2.1 (fun r0 r1 => K ⟨.agg [.int .i64 r0, .row ⟨90, .int .u64, r1, 99, none⟩], []⟩)
theorem Z43_ok : ∀ n v K, Z43.u n v K -> callM C X0 n 27 (fillA Z43.a v) K :=
 call_tell hX (fn := Try.f27) (c := bodyOf Try.f27) (by kernel_rfl) (by kernel_rfl) (A := Z43.a) (u := Z43.u) (fun _ _ h => h) (call := D99) (lp := fun n => noL) (D99_ok hX) (fun n => noL_ok) (fun n v K => by kernel_rfl)
def D100 (n : Nat) : CallF := orC 27 Z43.a (Z43.u n) (D99 n)
theorem D100_ok : ∀ n g a K, D100 n g a K -> callM C X0 n g a K := fun n => orC_ok (Z43_ok hX n) (D99_ok hX n)
abbrev Z54.a : List TS := [.a [.o (.int .i64), .o (.dat 90 (.int .u64))], .a [.o (.int .i64), .o (.dat 90 (.int .u64))]]
def Z54.u (n : Nat) (v : VA Z54.a) (K : RES -> Prop) : Prop := Z54.c n v.1.1 v.1.2.1 v.2.1.1 v.2.1.2.1 (fun r0 => K ⟨.c (.int .i64 r0), []⟩)
abbrev Z54.l4.s : ST := ⟨[(2, .c (.o (.pbox 2 0))), (3, .c (.o (.pbox 3 0))), (5, .c (.o (.int .i64)))], [], [⟨2, 44, [.o (.int .i64), .o (.dat 90 (.int .u64))], false⟩, ⟨3, 44, [.o (.int .i64), .o (.dat 90 (.int .u64))], false⟩], [], []⟩
def Z54.l4.u (n : Nat) (v : Z54.l4.s.V) (K : X -> St -> Prop) : Prop := Z54.l4 n v.2.2.1.1 v.2.2.1.2.1 v.2.2.2.1.1 v.2.2.2.1.2.1 v.1.2.2.1 (K (.exit 0) ⟨[], [], [], [], []⟩) (fun y0 => K .ret ⟨[(4, .c (.int .i64 y0))], [], [], [], []⟩)
theorem Z54.l4_ok : ∀ n v K, Z54.l4.u n v K -> loopM C X0 n 29 4 (Z54.l4.s.fill v) K :=
 loop_tell hX (fn := Try.f29) (c := bodyOf Try.f29) (a := loopOf Try.f29 4) (li := liOf (C.fi 29).loops 4) (by kernel_rfl) (by kernel_rfl) (of_decide_eq_true rfl) (by kernel_rfl) (by kernel_rfl) (T := Z54.l4.s) (u := Z54.l4.u) (fun _ _ h => h) (call := D100) (lp := fun n => noL) (D100_ok hX) (fun n => noL_ok) (fun n v K => by kernel_rfl)
theorem Z54_ok : ∀ n v K, Z54.u n v K -> callM C X0 n 29 (fillA Z54.a v) K :=
 call_tell hX (fn := Try.f29) (c := bodyOf Try.f29) (by kernel_rfl) (by kernel_rfl) (A := Z54.a) (u := Z54.u) (fun _ _ h => h) (call := D100) (lp := fun n => orL 4 Z54.l4.s (Z54.l4.u n) noL) (D100_ok hX) (fun n => (orL_ok (Z54.l4_ok hX n) noL_ok)) (fun n v K => by kernel_rfl)
def D101 (n : Nat) : CallF := orC 29 Z54.a (Z54.u n) (D100 n)
theorem D101_ok : ∀ n g a K, D101 n g a K -> callM C X0 n g a K := fun n => orC_ok (Z54_ok hX n) (D100_ok hX n)
abbrev laws_FnNumbered.a : List TS := [.c (.o (.dat 5 (.int .u8)))]
def laws_FnNumbered.u (n : Nat) (v : VA laws_FnNumbered.a) (K : RES -> Prop) : Prop := laws_FnNumbered.c n v.1 (fun r0 => K ⟨.c (.bool r0), []⟩)
abbrev laws_FnNumbered.l16.s : ST := ⟨[(3, .c (.o (.own 576))), (4, .c (.o (.own 577))), (5, .c (.o (.int .i64))), (6, .c (.o (.pbox 6 0))), (7, .c (.o (.int .i64))), (8, .c (.o (.own 1376))), (10, .c (.o (.pbox 10 0))), (11, .c (.o (.int .i64)))], [⟨576, 112, .prod .str (.int .i64), 0⟩, ⟨577, 30, .prod (.int .i64) Y2, 1⟩, ⟨1376, 44, .prod (.int .i64) (.sl 90 (.int .u64)), 99⟩, ⟨1000193, 90, .int .u64, 99⟩, ⟨1000321, 90, .int .u64, 99⟩], [⟨6, 44, [.o (.int .i64), .o (.own 1000193)], false⟩, ⟨10, 44, [.o (.int .i64), .o (.own 1000321)], false⟩], [], []⟩
def laws_FnNumbered.l16.u (n : Nat) (v : laws_FnNumbered.l16.s.V) (K : X -> St -> Prop) : Prop := laws_FnNumbered.l16 n v.1.2.2.1 v.1.2.2.2.2.1 v.2.1.1 v.2.1.2.1 v.2.1.2.2.1 v.2.1.2.2.2.1 v.2.2.1.1 v.1.2.2.2.2.2.2.2.1 v.2.1.2.2.2.2.1 v.2.2.2.1.1 (fun y0 y1 y2 y3 y4 y5 y6 y7 => K (.exit 2) ⟨[(3, .c (.own 576)), (4, .c (.own 577)), (5, .c (.int .i64 y0)), (6, .c (.pbox 6 0)), (7, .c (.int .i64 y1)), (10, .c (.pbox 10 0))], [(576, ⟨112, .prod .str (.int .i64), y2, 0, none⟩), (577, ⟨30, .prod (.int .i64) Y2, y3, 1, none⟩), (1000193, ⟨90, .int .u64, y4, 99, none⟩), (1000321, ⟨90, .int .u64, y5, 99, none⟩)], [(6, ⟨44, [.int .i64 y6, .own 1000193], false⟩), (10, ⟨44, [.int .i64 y7, .own 1000321], false⟩)], [], []⟩)
abbrev laws_FnNumbered.l9.s : ST := ⟨[(3, .c (.o (.own 576))), (4, .c (.o (.own 577))), (5, .c (.o (.int .i64))), (6, .c (.o (.pbox 6 0))), (7, .c (.o (.int .i64)))], [⟨576, 112, .prod .str (.int .i64), 0⟩, ⟨577, 30, .prod (.int .i64) Y2, 1⟩, ⟨1000193, 90, .int .u64, 99⟩], [⟨6, 44, [.o (.int .i64), .o (.own 1000193)], false⟩], [], []⟩
def laws_FnNumbered.l9.u (n : Nat) (v : laws_FnNumbered.l9.s.V) (K : X -> St -> Prop) : Prop := laws_FnNumbered.l9 n v.1.2.2.1 v.1.2.2.2.2.1 v.2.1.1 v.2.1.2.1 v.2.1.2.2.1 v.2.2.1.1 (fun y0 y1 y2 => K (.exit 0) ⟨[(3, .c (.own 576)), (4, .c (.own 577)), (5, .c (.int .i64 y0))], [(576, ⟨112, .prod .str (.int .i64), y1, 0, none⟩), (577, ⟨30, .prod (.int .i64) Y2, y2, 1, none⟩)], [], [], []⟩) (fun y0 => K .ret ⟨[(2, .c (.bool y0))], [], [], [], []⟩)
theorem laws_FnNumbered.l16_ok : ∀ n v K, laws_FnNumbered.l16.u n v K -> loopM C X0 n 6 16 (laws_FnNumbered.l16.s.fill v) K :=
 loop_tell hX (fn := Try.f6) (c := bodyOf Try.f6) (a := loopOf Try.f6 16) (li := liOf (C.fi 6).loops 16) (by kernel_rfl) (by kernel_rfl) (of_decide_eq_true rfl) (by kernel_rfl) (by kernel_rfl) (T := laws_FnNumbered.l16.s) (u := laws_FnNumbered.l16.u) (fun _ _ h => h) (call := D101) (lp := fun n => noL) (D101_ok hX) (fun n => noL_ok) (fun n v K => by kernel_rfl)
theorem laws_FnNumbered.l9_ok : ∀ n v K, laws_FnNumbered.l9.u n v K -> loopM C X0 n 6 9 (laws_FnNumbered.l9.s.fill v) K :=
 loop_tell hX (fn := Try.f6) (c := bodyOf Try.f6) (a := loopOf Try.f6 9) (li := liOf (C.fi 6).loops 9) (by kernel_rfl) (by kernel_rfl) (of_decide_eq_true rfl) (by kernel_rfl) (by kernel_rfl) (T := laws_FnNumbered.l9.s) (u := laws_FnNumbered.l9.u) (fun _ _ h => h) (call := D101) (lp := fun n => orL 16 laws_FnNumbered.l16.s (laws_FnNumbered.l16.u n) noL) (D101_ok hX) (fun n => (orL_ok (laws_FnNumbered.l16_ok hX n) noL_ok)) (fun n v K => by kernel_rfl)
theorem laws_FnNumbered_ok : ∀ n v K, laws_FnNumbered.u n v K -> callM C X0 n 6 (fillA laws_FnNumbered.a v) K :=
 call_tell hX (fn := Try.f6) (c := bodyOf Try.f6) (by kernel_rfl) (by kernel_rfl) (A := laws_FnNumbered.a) (u := laws_FnNumbered.u) (fun _ _ h => h) (call := D101) (lp := fun n => orL 9 laws_FnNumbered.l9.s (laws_FnNumbered.l9.u n) noL) (D101_ok hX) (fun n => (orL_ok (laws_FnNumbered.l9_ok hX n) noL_ok)) (fun n v K => by kernel_rfl)
def D102 (n : Nat) : CallF := orC 6 laws_FnNumbered.a (laws_FnNumbered.u n) (D101 n)
theorem D102_ok : ∀ n g a K, D102 n g a K -> callM C X0 n g a K := fun n => orC_ok (laws_FnNumbered_ok hX n) (D101_ok hX n)
end
end Go.Vsi
end
