/- Each told function is what the machine comes to. No statement is proved here. -/
import Derived.Test.YtaeadfaldglniaaGreatDoorM4
import Derived.Test.YtaeadfaldglniaaGreatDoorA1
import Derived.Shelf.Strconv.Itoa4
import Derived.Shelf.GgClosure.Gives
import Derived.Shelf.SortM.Plain
import Derived.Shelf.SortM.SortNone
import Derived.Test.YtaeadfaldglniaaGreatDoorProg
import Derived.KernelRfl
set_option linter.unusedVariables false
set_option linter.unusedSimpArgs false

section
namespace Go.Vsi
abbrev Y13 : Ty := .prod .str (.int .i64)
abbrev Y12 : Ty := .prod (.int .i64) (.int .i64)
abbrev Y11 : Ty := .prod .str (.sl 2 (.int .i64))
abbrev Y10 : Ty := .prod (.sl 5 (.int .u8)) (.int .i64)
abbrev Y9 : Ty := .prod (.int .i64) (.sl 110 (.int .u64))
abbrev Y8 : Ty := .prod (.int .i64) (.prod (.int .i64) (.prod .bool (.int .u8)))
abbrev Y7 : Ty := .prod (.sl 177 Y11) (.sl 3 (.int .i64))
abbrev Y6 : Ty := .prod (.int .i64) (.prod (.int .i64) (.prod (.int .i64) Y9))
abbrev Y5 : Ty := .prod .str (.prod (.int .i64) (.prod (.sl 177 Y11) (.sl 2 (.int .i64))))
abbrev Y4 : Ty := .prod (.int .i64) (.prod (.int .i64) (.prod (.int .i64) (.prod (.int .i64) (.prod (.sl 110 (.int .u64)) (.sl 2 (.int .i64))))))
abbrev Y3 : Ty := .prod (.int .i64) Y4
abbrev Y2 : Ty := .prod (.sl 63 Y3) (.sl 2 (.int .i64))
abbrev Y1 : Ty := .prod (.sl 65 Y13) (.prod (.sl 177 Y11) (.prod (.sl 63 Y3) (.prod (.sl 2 (.int .i64)) Y12)))
open Go.Proofs
def tu : TI := ⟨false, 1, 8, [.undef], none, none, [], [], none⟩
def tis : List (Nat × TI) := [
(1, tu),
(2, ⟨false, 1, 8, [.int .i64 0], some (.int .i64), none, [], [], none⟩),
(3, ⟨false, 1, 8, [.int .i64 0], some (.int .i64), none, [], [], none⟩),
(4, ⟨false, 1, 1, [.bool false], some (.bool), none, [], [], none⟩),
(5, ⟨false, 1, 1, [.int .u8 0], some (.int .u8), none, [], [], none⟩),
(6, ⟨false, 1, 1, [.int .u8 0], some (.int .u8), none, [], [], none⟩),
(7, ⟨true, 4, 24, [.int .i64 0, .int .i64 0, .bool false, .int .u8 0], some Y8, none, [(0, 2), (1, 3), (2, 4), (3, 6)], [], none⟩),
(8, ⟨true, 4, 24, [.int .i64 0, .int .i64 0, .bool false, .int .u8 0], some Y8, none, [(0, 2), (1, 3), (2, 4), (3, 6)], [], none⟩),
(9, ⟨false, 1, 16, [.str []], some (.str), none, [], [], none⟩),
(10, ⟨false, 1, 16, [.str []], some (.str), none, [], [], none⟩),
(11, ⟨false, 1, 16, [.str []], some (.str), none, [], [], none⟩),
(12, ⟨false, 1, 8, [.int .u64 0], some (.int .u64), none, [], [], none⟩),
(13, ⟨true, 2, 24, [.str [], .int .u64 0], some (.prod .str (.int .u64)), none, [(0, 9), (1, 12)], [], none⟩),
(14, ⟨true, 2, 24, [.str [], .int .u64 0], some (.prod .str (.int .u64)), none, [(0, 9), (1, 12)], [], none⟩),
(15, tu),
(16, tu),
(17, tu),
(18, ⟨true, 1, 8, [.undef], none, none, [(0, 17)], [], none⟩),
(19, ⟨true, 1, 8, [.undef], none, none, [(0, 17)], [], none⟩),
(20, ⟨false, 1, 16, [.undef], none, none, [], [], none⟩),
(21, ⟨false, 1, 4, [.int .i32 0], some (.int .i32), none, [], [], none⟩),
(22, ⟨false, 1, 24, [.emp 5 (.int .u8)], some (.sl 5 (.int .u8)), some 5, [], [], none⟩),
(23, tu),
(24, ⟨false, 1, 24, [.emp 65 Y13], some (.sl 65 Y13), some 65, [], [], none⟩),
(25, ⟨false, 1, 24, [.emp 61 Y6], some (.sl 61 Y6), some 61, [], [], none⟩),
(27, tu),
(28, ⟨false, 1, 24, [.emp 63 Y3], some (.sl 63 Y3), some 63, [], [], none⟩),
(29, ⟨true, 1, 24, [.emp 63 Y3], some (.sl 63 Y3), none, [(0, 28)], [], none⟩),
(30, ⟨true, 1, 24, [.emp 63 Y3], some (.sl 63 Y3), none, [(0, 28)], [], none⟩),
(32, tu),
(34, tu),
(35, tu),
(36, ⟨false, 1, 24, [.emp 72 Y13], some (.sl 72 Y13), some 72, [], [], none⟩),
(37, ⟨false, 1, 24, [.emp 114 Y3], some (.sl 114 Y3), some 114, [], [], none⟩),
(38, ⟨true, 1, 24, [.emp 114 Y3], some (.sl 114 Y3), none, [(0, 37)], [], none⟩),
(39, ⟨true, 1, 24, [.emp 114 Y3], some (.sl 114 Y3), none, [(0, 37)], [], none⟩),
(40, tu),
(41, tu),
(42, tu),
(43, tu),
(44, tu),
(45, tu),
(46, tu),
(47, tu),
(48, tu),
(49, tu),
(51, tu),
(52, tu),
(53, tu),
(54, tu),
(55, tu),
(56, ⟨false, 1, 24, [.emp 2 (.int .i64)], some (.sl 2 (.int .i64)), some 2, [], [], none⟩),
(57, ⟨false, 1, 24, [.emp 110 (.int .u64)], some (.sl 110 (.int .u64)), some 110, [], [], none⟩),
(58, ⟨true, 2, 32, [.int .i64 0, .emp 110 (.int .u64)], some Y9, none, [(0, 2), (1, 57)], [], none⟩),
(59, ⟨true, 2, 32, [.int .i64 0, .emp 110 (.int .u64)], some Y9, none, [(0, 2), (1, 57)], [], none⟩),
(60, ⟨true, 5, 56, [.int .i64 0, .int .i64 0, .int .i64 0, .int .i64 0, .emp 110 (.int .u64)], some Y6, none, [(0, 2), (1, 2), (2, 2), (3, 59)], [], none⟩),
(61, ⟨true, 5, 56, [.int .i64 0, .int .i64 0, .int .i64 0, .int .i64 0, .emp 110 (.int .u64)], some Y6, none, [(0, 2), (1, 2), (2, 2), (3, 59)], [], none⟩),
(62, ⟨true, 7, 88, [.int .i64 0, .int .i64 0, .int .i64 0, .int .i64 0, .int .i64 0, .emp 110 (.int .u64), .emp 2 (.int .i64)], some Y3, none, [(0, 2), (1, 2), (2, 2), (3, 2), (4, 59), (6, 56)], [], none⟩),
(63, ⟨true, 7, 88, [.int .i64 0, .int .i64 0, .int .i64 0, .int .i64 0, .int .i64 0, .emp 110 (.int .u64), .emp 2 (.int .i64)], some Y3, none, [(0, 2), (1, 2), (2, 2), (3, 2), (4, 59), (6, 56)], [], none⟩),
(64, ⟨true, 2, 24, [.str [], .int .i64 0], some Y13, none, [(0, 9), (1, 2)], [], none⟩),
(65, ⟨true, 2, 24, [.str [], .int .i64 0], some Y13, none, [(0, 9), (1, 2)], [.str, .int .i64], none⟩),
(67, tu),
(68, tu),
(69, tu),
(70, tu),
(71, tu),
(72, ⟨true, 2, 24, [.str [], .int .i64 0], some Y13, none, [(0, 9), (1, 2)], [.str, .int .i64], none⟩),
(73, tu),
(74, tu),
(75, tu),
(76, tu),
(77, tu),
(78, tu),
(79, tu),
(80, ⟨false, 1, 24, [.emp 177 Y11], some (.sl 177 Y11), some 177, [], [], none⟩),
(81, ⟨true, 1, 24, [.emp 177 Y11], some (.sl 177 Y11), none, [(0, 80)], [], none⟩),
(82, ⟨true, 1, 24, [.emp 177 Y11], some (.sl 177 Y11), none, [(0, 80)], [], none⟩),
(84, tu),
(85, tu),
(86, tu),
(87, tu),
(88, tu),
(89, tu),
(90, tu),
(91, tu),
(92, tu),
(93, tu),
(94, tu),
(95, tu),
(96, tu),
(97, tu),
(98, tu),
(99, tu),
(100, tu),
(101, tu),
(102, tu),
(103, tu),
(104, tu),
(105, tu),
(106, ⟨false, 1, 24, [.emp 25 (.sl 61 Y6)], some (.sl 25 (.sl 61 Y6)), some 25, [], [], none⟩),
(107, tu),
(108, tu),
(109, tu),
(110, ⟨false, 1, 8, [.int .u64 0], some (.int .u64), none, [], [], none⟩),
(111, tu),
(112, ⟨true, 2, 32, [.int .i64 0, .emp 110 (.int .u64)], some Y9, none, [(0, 2), (1, 57)], [], none⟩),
(113, ⟨true, 7, 88, [.int .i64 0, .int .i64 0, .int .i64 0, .int .i64 0, .int .i64 0, .emp 110 (.int .u64), .emp 2 (.int .i64)], some Y3, none, [(0, 2), (1, 2), (2, 2), (3, 2), (4, 112), (6, 56)], [], none⟩),
(114, ⟨true, 7, 88, [.int .i64 0, .int .i64 0, .int .i64 0, .int .i64 0, .int .i64 0, .emp 110 (.int .u64), .emp 2 (.int .i64)], some Y3, none, [(0, 2), (1, 2), (2, 2), (3, 2), (4, 112), (6, 56)], [], none⟩),
(115, ⟨false, 1, 24, [.emp 116 (.sl 170 Y12)], some (.sl 116 (.sl 170 Y12)), some 116, [], [], none⟩),
(116, ⟨false, 1, 24, [.emp 170 Y12], some (.sl 170 Y12), some 170, [], [], none⟩),
(117, tu),
(118, tu),
(119, tu),
(120, tu),
(121, tu),
(122, tu),
(123, ⟨false, 1, 24, [.emp 3 (.int .i64)], some (.sl 3 (.int .i64)), some 3, [], [], none⟩),
(124, ⟨true, 2, 48, [.emp 177 Y11, .emp 3 (.int .i64)], some Y7, none, [(0, 82), (1, 123)], [], none⟩),
(125, ⟨true, 2, 48, [.emp 177 Y11, .emp 3 (.int .i64)], some Y7, none, [(0, 82), (1, 123)], [], none⟩),
(126, tu),
(127, tu),
(128, tu),
(130, tu),
(131, tu),
(132, ⟨true, 2, 48, [.emp 63 Y3, .emp 2 (.int .i64)], some Y2, none, [(0, 30), (1, 56)], [], none⟩),
(133, ⟨true, 2, 48, [.emp 63 Y3, .emp 2 (.int .i64)], some Y2, none, [(0, 30), (1, 56)], [], none⟩),
(134, tu),
(135, tu),
(136, ⟨true, 4, 72, [.str [], .int .i64 0, .emp 177 Y11, .emp 2 (.int .i64)], some Y5, none, [(0, 9), (1, 3), (2, 80), (3, 56)], [], none⟩),
(137, ⟨true, 4, 72, [.str [], .int .i64 0, .emp 177 Y11, .emp 2 (.int .i64)], some Y5, none, [(0, 9), (1, 3), (2, 80), (3, 56)], [], none⟩),
(138, tu),
(139, tu),
(140, ⟨true, 6, 112, [.emp 65 Y13, .emp 177 Y11, .emp 63 Y3, .emp 2 (.int .i64), .int .i64 0, .int .i64 0], some Y1, none, [(0, 24), (1, 82), (2, 28), (3, 56), (4, 2), (5, 2)], [], none⟩),
(141, ⟨true, 6, 112, [.emp 65 Y13, .emp 177 Y11, .emp 63 Y3, .emp 2 (.int .i64), .int .i64 0, .int .i64 0], some Y1, none, [(0, 24), (1, 82), (2, 28), (3, 56), (4, 2), (5, 2)], [], none⟩),
(142, tu),
(143, tu),
(144, tu),
(145, ⟨false, 1, 24, [.emp 4 .bool], some (.sl 4 .bool), some 4, [], [], none⟩),
(146, tu),
(147, tu),
(148, tu),
(149, ⟨false, 1, 8, [.undef], none, none, [], [], some (9, 2)⟩),
(150, ⟨true, 2, 32, [.emp 63 Y3, .undef], none, none, [(0, 28), (1, 149)], [], none⟩),
(151, ⟨true, 2, 32, [.emp 63 Y3, .undef], none, none, [(0, 28), (1, 149)], [], none⟩),
(152, ⟨true, 2, 32, [.emp 5 (.int .u8), .int .i64 0], some Y10, none, [(0, 22), (1, 3)], [], none⟩),
(153, ⟨true, 2, 32, [.emp 5 (.int .u8), .int .i64 0], some Y10, none, [(0, 22), (1, 3)], [], none⟩),
(154, tu),
(155, tu),
(156, tu),
(157, tu),
(158, tu),
(161, tu),
(162, tu),
(163, tu),
(164, tu),
(165, tu),
(166, tu),
(167, tu),
(168, tu),
(169, ⟨true, 2, 16, [.int .i64 0, .int .i64 0], some Y12, none, [(0, 2), (1, 2)], [], none⟩),
(170, ⟨true, 2, 16, [.int .i64 0, .int .i64 0], some Y12, none, [(0, 2), (1, 2)], [.int .i64, .int .i64], none⟩),
(171, tu),
(173, tu),
(174, tu),
(175, tu),
(176, ⟨true, 2, 40, [.str [], .emp 2 (.int .i64)], some Y11, none, [(0, 9), (1, 56)], [], none⟩),
(177, ⟨true, 2, 40, [.str [], .emp 2 (.int .i64)], some Y11, none, [(0, 9), (1, 56)], [], none⟩),
(178, tu),
(179, tu),
(180, tu),
(181, tu),
(182, tu),
(183, tu),
(184, tu),
(185, tu),
(186, tu),
(187, tu),
(188, tu),
(189, tu),
(190, tu),
(191, tu),
(192, tu),
(193, ⟨false, 1, 8, [.int .u64 0], some (.int .u64), none, [], [], none⟩),
(194, tu),
(195, tu),
(196, tu),
(197, tu),
(198, tu),
(199, tu),
(200, tu),
(201, tu),
(202, tu)]
noncomputable def fns : List (Nat × Func) := [(6, Tryz.f6), (13, Tryz.f13), (14, Tryz.f14), (16, Tryz.f16), (17, Tryz.f17), (19, Tryz.f19), (20, Tryz.f20), (21, Tryz.f21), (22, Tryz.f22), (23, Tryz.f23), (26, Tryz.f26), (27, Tryz.f27), (30, Tryz.f30), (33, Tryz.f33), (36, Tryz.f36), (37, Tryz.f37), (39, Tryz.f39), (40, Tryz.f40), (41, Tryz.f41), (42, Tryz.f42), (43, Tryz.f43), (44, Tryz.f44), (45, Tryz.f45), (47, Tryz.f47), (50, Tryz.f50), (52, Tryz.f52), (53, Tryz.f53), (54, Tryz.f54), (55, Tryz.f55), (56, Tryz.f56), (57, Tryz.f57), (58, Tryz.f58), (59, Tryz.f59), (60, Tryz.f60), (61, Tryz.f61), (62, Tryz.f62), (69, Tryz.f69), (71, Tryz.f71), (72, Tryz.f72), (75, Tryz.f75), (78, Tryz.f78), (79, Tryz.f79), (80, Tryz.f80), (81, Tryz.f81), (82, Tryz.f82), (83, Tryz.f83), (86, Tryz.f86), (89, Tryz.f89), (91, Tryz.f91), (92, Tryz.f92), (96, Tryz.f96), (97, Tryz.f97), (99, Tryz.f99), (104, Tryz.f104), (105, Tryz.f105), (106, Tryz.f106), (109, Tryz.f109), (110, Tryz.f110), (111, Tryz.f111), (113, Tryz.f113), (119, Tryz.f119), (120, Tryz.f120), (121, Tryz.f121), (123, Tryz.f123), (124, Tryz.f124), (125, Tryz.f125), (126, Tryz.f126), (128, Tryz.f128), (137, Tryz.f137), (138, Tryz.f138), (143, Tryz.f143), (144, Tryz.f144), (150, Tryz.f150), (152, Tryz.f152), (153, Tryz.f153), (154, Tryz.f154), (155, Tryz.f155), (156, Tryz.f156), (159, Tryz.f159), (160, Tryz.f160), (161, Tryz.f161), (162, Tryz.f162), (169, Tryz.f169), (183, Tryz.f183)]
def fis : List (Nat × Fi) := [
(6, ⟨[], [], [(1000012, ⟨⟨[0, 2, 5, 7, 10, 11], []⟩, [(1000000, ⟨[8], []⟩)], ⟨[8], []⟩⟩), (1000039, ⟨⟨[10, 11, 15, 18, 20, 21], []⟩, [(1000000, ⟨[8], []⟩)], ⟨[8], []⟩⟩)]⟩),
(13, ⟨[], [], [(5, ⟨⟨[0, 1, 5], []⟩, [(0, ⟨[1], []⟩)], ⟨[4], []⟩⟩)]⟩),
(16, ⟨[], [], [(3, ⟨⟨[0, 3, 4], []⟩, [(0, ⟨[3], []⟩)], ⟨[2], []⟩⟩)]⟩),
(20, ⟨[], [], [(4, ⟨⟨[0, 1, 5], []⟩, [(0, ⟨[], []⟩)], ⟨[4], []⟩⟩)]⟩),
(21, ⟨[1], [], [(2, ⟨⟨[0, 1, 5], []⟩, [(0, ⟨[1], []⟩)], ⟨[4], []⟩⟩)]⟩),
(22, ⟨[1], [], []⟩),
(26, ⟨[], [], [(8, ⟨⟨[2, 5, 8, 11, 12, 13, 14], [(11, 0, .own 1), (13, 0, .own 99)]⟩, [(0, ⟨[8, 11, 13], []⟩)], ⟨[8, 9], []⟩⟩), (14, ⟨⟨[2, 5, 8, 11, 12, 13, 14, 15, 16], []⟩, [(2, ⟨[2, 5, 8, 11, 12, 13, 14, 15], []⟩)], ⟨[8, 9], []⟩⟩)]⟩),
(30, ⟨[], [], [(4, ⟨⟨[0, 2, 4, 5, 6], [(5, 0, .own 99), (1000004, 0, .own 99)]⟩, [(0, ⟨[2, 4, 5], []⟩)], ⟨[2, 3], []⟩⟩), (8, ⟨⟨[0, 2, 4, 5, 6, 7, 8], []⟩, [(2, ⟨[0, 2, 4, 5, 6, 7], []⟩)], ⟨[2, 3], []⟩⟩), (13, ⟨⟨[0, 2, 4, 5, 6, 7, 9, 10], []⟩, [(4, ⟨[0, 2, 4, 5, 6, 7, 9], []⟩)], ⟨[2, 3], []⟩⟩)]⟩),
(37, ⟨[], [], [(5, ⟨⟨[0, 1, 5], []⟩, [(0, ⟨[1], []⟩)], ⟨[4], []⟩⟩)]⟩),
(40, ⟨[], [], [(3, ⟨⟨[0, 3, 4], []⟩, [(0, ⟨[3], []⟩)], ⟨[2], []⟩⟩)]⟩),
(41, ⟨[], [], [(4, ⟨⟨[0, 1, 5], []⟩, [(0, ⟨[], []⟩)], ⟨[4], []⟩⟩)]⟩),
(43, ⟨[], [], [(4, ⟨⟨[0, 3], []⟩, [(0, ⟨[3], []⟩)], ⟨[2], []⟩⟩)]⟩),
(44, ⟨[1], [], [(2, ⟨⟨[0, 1, 5], []⟩, [(0, ⟨[1], []⟩)], ⟨[4], []⟩⟩)]⟩),
(45, ⟨[], [], [(2, ⟨⟨[0, 1, 5], []⟩, [(0, ⟨[1], []⟩)], ⟨[4], []⟩⟩)]⟩),
(47, ⟨[], [], [(5, ⟨⟨[0, 3, 4], []⟩, [(0, ⟨[3], []⟩)], ⟨[2], []⟩⟩), (10, ⟨⟨[0, 3, 4, 5], []⟩, [(2, ⟨[0, 3, 4], []⟩)], ⟨[2], []⟩⟩)]⟩),
(50, ⟨[], [], [(5, ⟨⟨[0, 3, 9, 10, 11], []⟩, [(0, ⟨[3], []⟩)], ⟨[2], []⟩⟩)]⟩),
(55, ⟨[], [], [(5, ⟨⟨[0, 5, 6, 7], []⟩, [(0, ⟨[0, 5, 6], []⟩)], ⟨[4], []⟩⟩), (8, ⟨⟨[0, 5, 6, 7, 8], []⟩, [(2, ⟨[0, 5, 6, 7], []⟩)], ⟨[4], []⟩⟩), (13, ⟨⟨[0, 5, 6, 9, 10], [(9, 0, .own 99)]⟩, [(4, ⟨[9], []⟩)], ⟨[4], []⟩⟩), (18, ⟨⟨[0, 5, 6, 9, 10, 11, 12], []⟩, [(6, ⟨[0, 5, 6, 9, 10, 11], []⟩)], ⟨[4], []⟩⟩)]⟩),
(58, ⟨[], [], [(3, ⟨⟨[3, 8, 9, 10], [(3, 0, .own 99)]⟩, [(0, ⟨[3], []⟩)], ⟨[2], []⟩⟩)]⟩),
(61, ⟨[1], [], [(3, ⟨⟨[0, 2, 3, 9, 20, 21, 22], []⟩, [(0, ⟨[9], []⟩)], ⟨[8], []⟩⟩), (9, ⟨⟨[0, 2, 3, 9, 10, 11, 12, 20, 21, 22, 45, 46, 47], []⟩, [(2, ⟨[0, 2, 3, 9, 10, 11, 12, 20, 21, 22], []⟩)], ⟨[8], []⟩⟩)]⟩),
(62, ⟨[5], [], [(4, ⟨⟨[0, 4, 5, 6], []⟩, [(0, ⟨[0, 4, 5], []⟩)], ⟨[4], []⟩⟩), (8, ⟨⟨[0, 4, 5, 6, 40, 41, 42], []⟩, [(2, ⟨[0, 4, 5, 6], []⟩)], ⟨[4], []⟩⟩), (15, ⟨⟨[4, 5, 9, 10, 60, 61, 62], [(60, 0, .fz), (1000010, 0, .own 99)]⟩, [(4, ⟨[4, 10], []⟩)], ⟨[4], []⟩⟩), (20, ⟨⟨[4, 5, 9, 10, 12, 60, 61, 62, 79, 80, 81], []⟩, [(6, ⟨[4, 5, 9, 10, 12, 60, 61, 62], []⟩)], ⟨[4], []⟩⟩)]⟩),
(69, ⟨[], [], [(4, ⟨⟨[2, 3, 5], []⟩, [(0, ⟨[], []⟩)], ⟨[4], []⟩⟩)]⟩),
(71, ⟨[1], [], []⟩),
(80, ⟨[1], [], [(2, ⟨⟨[0, 1, 5], []⟩, [(0, ⟨[1], []⟩)], ⟨[4], []⟩⟩)]⟩),
(81, ⟨[1], [], [(2, ⟨⟨[0, 1, 5], []⟩, [(0, ⟨[1], []⟩)], ⟨[4], []⟩⟩)]⟩),
(82, ⟨[], [], [(2, ⟨⟨[0, 1, 5], []⟩, [(0, ⟨[1], []⟩)], ⟨[4], []⟩⟩)]⟩),
(83, ⟨[], [], [(2, ⟨⟨[0, 1, 5], []⟩, [(0, ⟨[1], []⟩)], ⟨[4], []⟩⟩)]⟩),
(86, ⟨[], [], [(4, ⟨⟨[0, 3], []⟩, [(0, ⟨[], []⟩)], ⟨[2], []⟩⟩)]⟩),
(89, ⟨[], [], [(3, ⟨⟨[0, 2, 4, 7, 8], []⟩, [(0, ⟨[0, 4, 7], []⟩)], ⟨[6], []⟩⟩)]⟩),
(91, ⟨[], [], [(4, ⟨⟨[0, 3], []⟩, [(0, ⟨[], []⟩)], ⟨[2], []⟩⟩)]⟩),
(96, ⟨[], [], [(7, ⟨⟨[0, 3, 5, 6, 7, 8], [(6, 0, .own 99)]⟩, [(0, ⟨[5, 6, 7], []⟩)], ⟨[4], []⟩⟩), (16, ⟨⟨[0, 3, 5, 6, 7, 8, 10], []⟩, [(2, ⟨[0, 3, 5, 6, 7, 8], []⟩)], ⟨[4], []⟩⟩), (20, ⟨⟨[5, 6, 7, 11], []⟩, [(4, ⟨[6], []⟩)], ⟨[4], []⟩⟩)]⟩),
(97, ⟨[], [], [(2, ⟨⟨[0, 1, 7, 8], []⟩, [(0, ⟨[], []⟩)], ⟨[4], []⟩⟩)]⟩),
(98, ⟨[1], [], []⟩),
(99, ⟨[2], [], [(4, ⟨⟨[0, 3], []⟩, [(0, ⟨[0], []⟩)], ⟨[2], []⟩⟩), (9, ⟨⟨[0, 3, 4, 5], []⟩, [(2, ⟨[0, 3], []⟩)], ⟨[2], []⟩⟩)]⟩),
(104, ⟨[], [], [(4, ⟨⟨[1, 3], []⟩, [(0, ⟨[], []⟩)], ⟨[2], []⟩⟩)]⟩),
(106, ⟨[], [], [(4, ⟨⟨[2, 3, 5], []⟩, [(0, ⟨[], []⟩)], ⟨[4], []⟩⟩)]⟩),
(109, ⟨[], [], [(3, ⟨⟨[3, 42, 43, 44], []⟩, [(0, ⟨[3], []⟩)], ⟨[2], []⟩⟩)]⟩),
(111, ⟨[], [], [(6, ⟨⟨[0, 3, 6, 7, 8, 29, 30], []⟩, [(0, ⟨[6, 7, 8], []⟩)], ⟨[4, 5], []⟩⟩), (13, ⟨⟨[0, 3, 6, 7, 8, 9, 10, 11, 29, 30, 52, 53, 54], []⟩, [(2, ⟨[0, 3, 6, 7, 8, 9, 10, 11, 29, 30], []⟩)], ⟨[4, 5], []⟩⟩)]⟩),
(124, ⟨[], [], [(3, ⟨⟨[0, 3, 4], []⟩, [(0, ⟨[3], []⟩)], ⟨[2], []⟩⟩)]⟩),
(126, ⟨[], [], [(4, ⟨⟨[0, 1, 5], []⟩, [(0, ⟨[], []⟩)], ⟨[4], []⟩⟩)]⟩),
(137, ⟨[], [], [(2, ⟨⟨[0, 1, 7, 8], []⟩, [(0, ⟨[], []⟩)], ⟨[4], []⟩⟩)]⟩),
(143, ⟨[], [], [(11, ⟨⟨[8, 80, 81, 82], []⟩, [(1, ⟨[8], []⟩)], ⟨[6], []⟩⟩), (1000005, ⟨⟨[0, 1, 2, 7, 17], []⟩, [(1000000, ⟨[], []⟩)], ⟨[6], []⟩⟩), (1000009, ⟨⟨[0, 2, 7, 69], []⟩, [(1000000, ⟨[], []⟩)], ⟨[6], []⟩⟩), (1000021, ⟨⟨[0, 7, 137], []⟩, [(1000000, ⟨[], []⟩)], ⟨[6], []⟩⟩)]⟩),
(144, ⟨[], [], [(2, ⟨⟨[0, 2, 4, 7], []⟩, [(0, ⟨[0, 4], []⟩)], ⟨[6], []⟩⟩), (1000007, ⟨⟨[0, 4, 63], []⟩, [(1000000, ⟨[0, 4], []⟩)], ⟨[6], []⟩⟩), (1000008, ⟨⟨[0, 4], []⟩, [(1000000, ⟨[6], []⟩)], ⟨[6], []⟩⟩)]⟩),
(152, ⟨[], [], [(8, ⟨⟨[1, 3, 5, 6], [(5, 0, .own 99)]⟩, [(0, ⟨[5], []⟩)], ⟨[2], []⟩⟩)]⟩),
(154, ⟨[], [], [(1000002, ⟨⟨[0, 3], []⟩, [(1000000, ⟨[2], []⟩)], ⟨[2], []⟩⟩), (1000003, ⟨⟨[0, 52], []⟩, [(1000000, ⟨[0], []⟩)], ⟨[2], []⟩⟩)]⟩),
(161, ⟨[], [], [(3, ⟨⟨[0, 3, 4], []⟩, [(0, ⟨[3], []⟩)], ⟨[2], []⟩⟩)]⟩),
(162, ⟨[], [], [(4, ⟨⟨[0, 1, 5], []⟩, [(0, ⟨[], []⟩)], ⟨[4], []⟩⟩)]⟩),
(183, ⟨[], [], [(2, ⟨⟨[0, 1, 7, 8], []⟩, [(0, ⟨[], []⟩)], ⟨[4], []⟩⟩)]⟩)]
def fiF (f : Nat) : Fi := (qL f fis).getD ⟨[], [], []⟩
noncomputable def C : Ctx := { ti := fun t => qL t tis, fs := fun f => qL f fns, fi := fiF }
def bodyOf (f : Func) : Code := f.body.getD .skip
def qLG (f : Func) (k : Nat) : Code := (qT k (bodyOf f)).getD .skip
def qNT (f : Func) (k : Nat) : Code := (qY k (bodyOf f)).getD .skip
def qPW (l : List (Nat × Li)) (k : Nat) : Li := (qL k l).getD ⟨⟨[], []⟩, [], ⟨[], []⟩⟩
theorem qNs : (tis.all fun x => tiB Tryz.prog x.1 x.2) = true := by kernel_rfl
theorem qMP : (fns.all fun x => fnB (fiF x.1) x.2) = true := by kernel_rfl
theorem fnp (f : Nat) (x : Func) (r : List (Nat × Func)) (h : Tryz.prog.funcs[f]? = some x) (hr : ∀ y ∈ r, Tryz.prog.funcs[y.1]? = some y.2) : ∀ y ∈ (f, x) :: r, Tryz.prog.funcs[y.1]? = some y.2 := List.forall_mem_cons.2 ⟨h, hr⟩
set_option maxRecDepth 100000 in
theorem qLf : ∀ x ∈ fns, Tryz.prog.funcs[x.1]? = some x.2 := (fnp _ _ _ Tryz.func6
(fnp _ _ _ Tryz.func13
(fnp _ _ _ Tryz.func14
(fnp _ _ _ Tryz.func16
(fnp _ _ _ Tryz.func17
(fnp _ _ _ Tryz.func19
(fnp _ _ _ Tryz.func20
(fnp _ _ _ Tryz.func21
(fnp _ _ _ Tryz.func22
(fnp _ _ _ Tryz.func23
(fnp _ _ _ Tryz.func26
(fnp _ _ _ Tryz.func27
(fnp _ _ _ Tryz.func30
(fnp _ _ _ Tryz.func33
(fnp _ _ _ Tryz.func36
(fnp _ _ _ Tryz.func37
(fnp _ _ _ Tryz.func39
(fnp _ _ _ Tryz.func40
(fnp _ _ _ Tryz.func41
(fnp _ _ _ Tryz.func42
(fnp _ _ _ Tryz.func43
(fnp _ _ _ Tryz.func44
(fnp _ _ _ Tryz.func45
(fnp _ _ _ Tryz.func47
(fnp _ _ _ Tryz.func50
(fnp _ _ _ Tryz.func52
(fnp _ _ _ Tryz.func53
(fnp _ _ _ Tryz.func54
(fnp _ _ _ Tryz.func55
(fnp _ _ _ Tryz.func56
(fnp _ _ _ Tryz.func57
(fnp _ _ _ Tryz.func58
(fnp _ _ _ Tryz.func59
(fnp _ _ _ Tryz.func60
(fnp _ _ _ Tryz.func61
(fnp _ _ _ Tryz.func62
(fnp _ _ _ Tryz.func69
(fnp _ _ _ Tryz.func71
(fnp _ _ _ Tryz.func72
(fnp _ _ _ Tryz.func75
(fnp _ _ _ Tryz.func78
(fnp _ _ _ Tryz.func79
(fnp _ _ _ Tryz.func80
(fnp _ _ _ Tryz.func81
(fnp _ _ _ Tryz.func82
(fnp _ _ _ Tryz.func83
(fnp _ _ _ Tryz.func86
(fnp _ _ _ Tryz.func89
(fnp _ _ _ Tryz.func91
(fnp _ _ _ Tryz.func92
(fnp _ _ _ Tryz.func96
(fnp _ _ _ Tryz.func97
(fnp _ _ _ Tryz.func99
(fnp _ _ _ Tryz.func104
(fnp _ _ _ Tryz.func105
(fnp _ _ _ Tryz.func106
(fnp _ _ _ Tryz.func109
(fnp _ _ _ Tryz.func110
(fnp _ _ _ Tryz.func111
(fnp _ _ _ Tryz.func113
(fnp _ _ _ Tryz.func119
(fnp _ _ _ Tryz.func120
(fnp _ _ _ Tryz.func121
(fnp _ _ _ Tryz.func123
(fnp _ _ _ Tryz.func124
(fnp _ _ _ Tryz.func125
(fnp _ _ _ Tryz.func126
(fnp _ _ _ Tryz.func128
(fnp _ _ _ Tryz.func137
(fnp _ _ _ Tryz.func138
(fnp _ _ _ Tryz.func143
(fnp _ _ _ Tryz.func144
(fnp _ _ _ Tryz.func150
(fnp _ _ _ Tryz.func152
(fnp _ _ _ Tryz.func153
(fnp _ _ _ Tryz.func154
(fnp _ _ _ Tryz.func155
(fnp _ _ _ Tryz.func156
(fnp _ _ _ Tryz.func159
(fnp _ _ _ Tryz.func160
(fnp _ _ _ Tryz.func161
(fnp _ _ _ Tryz.func162
(fnp _ _ _ Tryz.func169
(fnp _ _ _ Tryz.func183
(fun _ h => by cases h)))))))))))))))))))))))))))))))))))))))))))))))))))))))))))))))))))))))))))))))))))))
theorem C_ok : jK Tryz.prog C := qNU qNs qLf
theorem C_fns : qF2 Tryz.prog C := Go.Vsi.fns_ok qMP
theorem C_follows : Tryz.prog.follows .mixedOrders = true := by kernel_rfl
def CT (X0 : CallF) (f : Nat) (A : List TS) (u : Nat -> VA A -> (RES -> Prop) -> Prop) : Prop := ∀ n v K, u n v K -> callM C X0 n f (qAr A v) K
def LT (X0 : CallF) (f k : Nat) (T : ST) (u : Nat -> T.V -> (X -> St -> Prop) -> Prop) : Prop := ∀ n v K, u n v K -> yP C X0 n f k (T.fill v) K
structure CS (X0 : CallF) where
 c : Nat -> CallF
 ok : ∀ n g a K, c n g a K -> callM C X0 n g a K
structure LS (X0 : CallF) (f : Nat) where
 l : Nat -> kW
 ok : ∀ n k st K, l n k st K -> yP C X0 n f k st K
def nL {X0 : CallF} {f : Nat} : LS X0 f := ⟨fun _ => noL, fun _ => qNF⟩
def oL {X0 : CallF} {f k : Nat} {T : ST} {u : Nat -> T.V -> (X -> St -> Prop) -> Prop} (h : LT X0 f k T u) (r : LS X0 f) : LS X0 f := ⟨fun n => orL k T (u n) (r.l n), fun n => qNC (h n) (r.ok n)⟩
def oC {X0 : CallF} {f : Nat} {A : List TS} {u : Nat -> VA A -> (RES -> Prop) -> Prop} (h : CT X0 f A u) (d : CS X0) : CS X0 := ⟨fun n => orC f A (u n) (d.c n), fun n => qND (h n) (d.ok n)⟩
def D0 {X0 : CallF} (hX : CallF.Mono X0) : CS X0 := ⟨fun _ => noC, fun _ => qNG⟩
theorem ct {X0 : CallF} (hX : CallF.Mono X0) {f : Nat} (fn : Func) {A : List TS} {u : Nat -> VA A -> (RES -> Prop) -> Prop} (e : (C.fs f, fn.body) = (some fn, some (bodyOf fn))) (h0 : ∀ v K, ¬ u 0 v K) (d : CS X0) (l : LS X0 f)
  (he : ∀ n v K, u (n + 1) v K = evC C (d.c n) fn.ntmps (C.fi f) (l.l n) (bodyOf fn) (enter (C.fi f).modes (qAr A v)) (qCc C fn (C.fi f) (qAr A v) K)) : CT X0 f A u :=
 qKf hX (congrArg Prod.fst e) (congrArg Prod.snd e) h0 d.ok l.ok he
theorem lt {X0 : CallF} (hX : CallF.Mono X0) {f k : Nat} (fn : Func) {T : ST} {u : Nat -> T.V -> (X -> St -> Prop) -> Prop}
  (e : (C.fs f, fn.body, decide (k < 1000000), qT k (bodyOf fn), qL k (C.fi f).loops) = (some fn, some (bodyOf fn), true, some (qLG fn k), some (qPW (C.fi f).loops k))) (h0 : ∀ v K, ¬ u 0 v K) (d : CS X0) (l : LS X0 f)
  (he : ∀ n v K, u (n + 1) v K = evC C (d.c n) fn.ntmps (C.fi f) (l.l n) (qLG fn k) (T.fill v) (qBR (qPW (C.fi f).loops k) (qP1 T fun v' => u n v' K) K)) : LT X0 f k T u :=
 qFm hX (congrArg (·.1) e) (congrArg (·.2.1) e) (of_decide_eq_true (congrArg (·.2.2.1) e)) (congrArg (·.2.2.2.1) e) (congrArg (·.2.2.2.2) e) h0 d.ok l.ok he
theorem cu {X0 : CallF} (hX : CallF.Mono X0) {f k : Nat} (fn : Func) {T : ST} {u : Nat -> T.V -> (X -> St -> Prop) -> Prop}
  (e : (C.fs f, fn.body, decide (1000000 <= k), qY (k - 1000000) (bodyOf fn), qL k (C.fi f).loops) = (some fn, some (bodyOf fn), true, some (qNT fn (k - 1000000)), some (qPW (C.fi f).loops k))) (h0 : ∀ v K, ¬ u 0 v K) (d : CS X0) (l : LS X0 f)
  (he : ∀ n v K, u (n + 1) v K = evC C (d.c n) fn.ntmps (C.fi f) (l.l n) (qNT fn (k - 1000000)) (T.fill v) (qLS (qPW (C.fi f).loops k) K)) : LT X0 f k T u :=
 qLk hX (congrArg (·.1) e) (congrArg (·.2.1) e) (of_decide_eq_true (congrArg (·.2.2.1) e)) (congrArg (·.2.2.2.1) e) (congrArg (·.2.2.2.2) e) h0 d.ok l.ok he
end Go.Vsi
namespace Go.Proofs
open Go.Shelf
def Tryz.srtL_ren : Go.Shelf.Ren := ⟨fun | 5 => 98 | 8 => 146 | 7 => 145 | 19 => 179 | 20 => 180 | 10 => 170 | 11 => 171 | 12 => 172 | 13 => 173 | 14 => 174 | 15 => 175 | 16 => 176 | 17 => 177 | 18 => 178 | 30 => 188 | 31 => 189 | 32 => 190 | 33 => 191 | 34 => 192 | 35 => 193 | 40 => 201 | n => n, fun | 23 => 56 | 25 => 2 | 3 => 3 | 32 => 193 | 22 => 56 | 0 => 0 | 44 => 218 | 46 => 110 | 4 => 4 | 36 => 210 | 35 => 209 | 41 => 215 | 5 => 5 | 9 => 9 | 53 => 230 | 57 => 233 | 63 => 240 | 64 => 241 | n => n, fun | n => n⟩
theorem Tryz.srtL : Go.Proofs.SlLaysM.n5 Tryz.prog Tryz.srtL_ren := {
 mixed := by kernel_rfl,
 f5 := ⟨Tryz.f98.name, by decide, Tryz.func98.trans (congrArg some (by kernel_rfl))⟩,
 f7 := ⟨Tryz.f145.name, by decide, Tryz.func145.trans (congrArg some (by kernel_rfl))⟩,
 f8 := Tryz.func146.trans (congrArg some (by kernel_rfl)),
 f10 := ⟨Tryz.f170.name, by decide, Tryz.func170.trans (congrArg some (by kernel_rfl))⟩,
 f11 := ⟨Tryz.f171.name, by decide, Tryz.func171.trans (congrArg some (by kernel_rfl))⟩,
 f12 := ⟨Tryz.f172.name, by decide, Tryz.func172.trans (congrArg some (by kernel_rfl))⟩,
 f13 := ⟨Tryz.f173.name, by decide, Tryz.func173.trans (congrArg some (by kernel_rfl))⟩,
 f14 := ⟨Tryz.f174.name, by decide, Tryz.func174.trans (congrArg some (by kernel_rfl))⟩,
 f15 := ⟨Tryz.f175.name, by decide, Tryz.func175.trans (congrArg some (by kernel_rfl))⟩,
 f16 := ⟨Tryz.f176.name, by decide, Tryz.func176.trans (congrArg some (by kernel_rfl))⟩,
 f17 := ⟨Tryz.f177.name, by decide, Tryz.func177.trans (congrArg some (by kernel_rfl))⟩,
 f18 := ⟨Tryz.f178.name, by decide, Tryz.func178.trans (congrArg some (by kernel_rfl))⟩,
 f19 := Tryz.func179.trans (congrArg some (by kernel_rfl)),
 f20 := Tryz.func180.trans (congrArg some (by kernel_rfl)),
 f30 := ⟨Tryz.f188.name, by decide, Tryz.func188.trans (congrArg some (by kernel_rfl))⟩,
 f31 := Tryz.func189.trans (congrArg some (by kernel_rfl)),
 f32 := Tryz.func190.trans (congrArg some (by kernel_rfl)),
 f33 := ⟨Tryz.f191.name, by decide, Tryz.func191.trans (congrArg some (by kernel_rfl))⟩,
 f34 := ⟨Tryz.f192.name, by decide, Tryz.func192.trans (congrArg some (by kernel_rfl))⟩,
 f35 := ⟨Tryz.f193.name, by decide, Tryz.func193.trans (congrArg some (by kernel_rfl))⟩,
 f40 := ⟨Tryz.f201.name, by decide, Tryz.func201.trans (congrArg some (by kernel_rfl))⟩,
 t0 := Tryz.underlying0,
 a0 := Tryz.isAgg0,
 z0 := Tryz.sizeOf0,
 v0 := Tryz.zeroValue0,
 t3 := Tryz.underlying3,
 a3 := Tryz.isAgg3,
 z3 := Tryz.sizeOf3,
 v3 := Tryz.zeroValue3,
 t4 := Tryz.underlying4,
 a4 := Tryz.isAgg4,
 z4 := Tryz.sizeOf4,
 v4 := Tryz.zeroValue4,
 t5 := Tryz.underlying5,
 a5 := Tryz.isAgg5,
 z5 := Tryz.sizeOf5,
 v5 := Tryz.zeroValue5,
 t9 := Tryz.underlying9,
 a9 := Tryz.isAgg9,
 z9 := Tryz.sizeOf9,
 v9 := Tryz.zeroValue9,
 t22 := Tryz.underlying56,
 a22 := Tryz.isAgg56,
 z22 := Tryz.sizeOf56,
 v22 := Tryz.zeroValue56,
 t23 := Tryz.underlying56,
 a23 := Tryz.isAgg56,
 z23 := Tryz.sizeOf56,
 v23 := Tryz.zeroValue56,
 t25 := Tryz.underlying2,
 a25 := Tryz.isAgg2,
 z25 := Tryz.sizeOf2,
 v25 := Tryz.zeroValue2,
 t32 := Tryz.underlying193,
 a32 := Tryz.isAgg193,
 z32 := Tryz.sizeOf193,
 v32 := Tryz.zeroValue193,
 t35 := Tryz.underlying209,
 a35 := Tryz.isAgg209,
 z35 := Tryz.sizeOf209,
 v35 := Tryz.zeroValue209,
 t36 := Tryz.underlying210,
 a36 := Tryz.isAgg210,
 z36 := Tryz.sizeOf210,
 v36 := Tryz.zeroValue210,
 t41 := Tryz.underlying215,
 a41 := Tryz.isAgg215,
 z41 := Tryz.sizeOf215,
 v41 := Tryz.zeroValue215,
 t44 := Tryz.underlying218,
 a44 := Tryz.isAgg218,
 z44 := Tryz.sizeOf218,
 v44 := Tryz.zeroValue218,
 t46 := Tryz.underlying110,
 a46 := Tryz.isAgg110,
 z46 := Tryz.sizeOf110,
 v46 := Tryz.zeroValue110,
 t53 := Tryz.underlying230,
 a53 := Tryz.isAgg230,
 z53 := Tryz.sizeOf230,
 v53 := Tryz.zeroValue230,
 t57 := Tryz.underlying233,
 a57 := Tryz.isAgg233,
 z57 := Tryz.sizeOf233,
 v57 := Tryz.zeroValue233,
 t63 := Tryz.underlying240,
 a63 := Tryz.isAgg240,
 z63 := Tryz.sizeOf240,
 v63 := Tryz.zeroValue240,
 t64 := Tryz.underlying241,
 a64 := Tryz.isAgg241,
 z64 := Tryz.sizeOf241,
 v64 := Tryz.zeroValue241 }
end Go.Proofs
namespace Go.Vsi
open Go.Proofs
theorem qMr : qMg Tryz.prog 98 := ⟨fun blk off cap zs w hH hb hs => AnyM.slices_Sort_int Tryz.srtL blk off cap zs w hH hb hs, fun p cap w => AnyM.slices_Sort_int_none Tryz.srtL p cap w⟩
end Go.Vsi
namespace Go.Proofs
open Go.Shelf
def Tryz.fmtL_ren : Go.Shelf.Ren := ⟨fun | 173 => 151 | 246 => 182 | 283 => 194 | 284 => 195 | 285 => 196 | 286 => 197 | 129 => 180 | 317 => 202 | 318 => 203 | 319 => 204 | 320 => 205 | 337 => 212 | 338 => 213 | n => n, fun | 2 => 2 | 3 => 3 | 9 => 9 | 4 => 4 | 171 => 235 | 0 => 0 | 53 => 110 | 37 => 22 | 5 => 5 | 173 => 237 | 212 => 244 | 51 => 218 | 20 => 20 | 213 => 245 | 46 => 193 | 232 => 257 | 233 => 258 | n => n, fun | 17 => 0 | 18 => 4 | 19 => 5 | n => n⟩
theorem Tryz.fmtL : Go.Proofs.LaysM.n173 Tryz.prog Tryz.fmtL_ren where
 mixed := by kernel_rfl
 f129 := Tryz.func180.trans (congrArg some (by kernel_rfl))
 f173 := Tryz.func151.trans (congrArg some (by kernel_rfl))
 f246 := Tryz.func182.trans (congrArg some (by kernel_rfl))
 f283 := Tryz.func194.trans (congrArg some (by kernel_rfl))
 f284 := Tryz.func195.trans (congrArg some (by kernel_rfl))
 f285 := Tryz.func196.trans (congrArg some (by kernel_rfl))
 f286 := Tryz.func197.trans (congrArg some (by kernel_rfl))
 f317 := Tryz.func202.trans (congrArg some (by kernel_rfl))
 f318 := Tryz.func203.trans (congrArg some (by kernel_rfl))
 f319 := Tryz.func204.trans (congrArg some (by kernel_rfl))
 f320 := Tryz.func205.trans (congrArg some (by kernel_rfl))
 f337 := Tryz.func212.trans (congrArg some (by kernel_rfl))
 f338 := Tryz.func213.trans (congrArg some (by kernel_rfl))
 t0 := Tryz.underlying0
 a0 := Tryz.isAgg0
 z0 := Tryz.sizeOf0
 v0 := Tryz.zeroValue0
 t2 := Tryz.underlying2
 a2 := Tryz.isAgg2
 z2 := Tryz.sizeOf2
 v2 := Tryz.zeroValue2
 t3 := Tryz.underlying3
 a3 := Tryz.isAgg3
 z3 := Tryz.sizeOf3
 v3 := Tryz.zeroValue3
 t4 := Tryz.underlying4
 a4 := Tryz.isAgg4
 z4 := Tryz.sizeOf4
 v4 := Tryz.zeroValue4
 t5 := Tryz.underlying5
 a5 := Tryz.isAgg5
 z5 := Tryz.sizeOf5
 v5 := Tryz.zeroValue5
 t9 := Tryz.underlying9
 a9 := Tryz.isAgg9
 z9 := Tryz.sizeOf9
 v9 := Tryz.zeroValue9
 t20 := Tryz.underlying20
 a20 := Tryz.isAgg20
 z20 := Tryz.sizeOf20
 v20 := Tryz.zeroValue20
 t37 := Tryz.underlying22
 a37 := Tryz.isAgg22
 z37 := Tryz.sizeOf22
 v37 := Tryz.zeroValue22
 t46 := Tryz.underlying193
 a46 := Tryz.isAgg193
 z46 := Tryz.sizeOf193
 v46 := Tryz.zeroValue193
 t51 := Tryz.underlying218
 a51 := Tryz.isAgg218
 z51 := Tryz.sizeOf218
 v51 := Tryz.zeroValue218
 t53 := Tryz.underlying110
 a53 := Tryz.isAgg110
 z53 := Tryz.sizeOf110
 v53 := Tryz.zeroValue110
 t171 := Tryz.underlying235
 a171 := Tryz.isAgg235
 z171 := Tryz.sizeOf235
 v171 := Tryz.zeroValue235
 t173 := Tryz.underlying237
 a173 := Tryz.isAgg237
 z173 := Tryz.sizeOf237
 v173 := Tryz.zeroValue237
 t212 := Tryz.underlying244
 a212 := Tryz.isAgg244
 z212 := Tryz.sizeOf244
 v212 := Tryz.zeroValue244
 t213 := Tryz.underlying245
 a213 := Tryz.isAgg245
 z213 := Tryz.sizeOf245
 t232 := Tryz.underlying257
 a232 := Tryz.isAgg257
 z232 := Tryz.sizeOf257
 v232 := Tryz.zeroValue257
 t233 := Tryz.underlying258
 a233 := Tryz.isAgg258
 z233 := Tryz.sizeOf258
 v233 := Tryz.zeroValue258
 g17 := by kernel_rfl
 g18 := by kernel_rfl
 g19 := by kernel_rfl
 i0 := by kernel_rfl
 i2 := by kernel_rfl
 i3 := by kernel_rfl
 i4 := by kernel_rfl
 i5 := by kernel_rfl
 i9 := by kernel_rfl
 i20 := by kernel_rfl
 i37 := by kernel_rfl
 i46 := by kernel_rfl
 i51 := by kernel_rfl
 i53 := by kernel_rfl
 i171 := by kernel_rfl
 i173 := by kernel_rfl
 i212 := by kernel_rfl
 i232 := by kernel_rfl
 i233 := by kernel_rfl
 m17 := by kernel_rfl
 m18 := by kernel_rfl
 m19 := by kernel_rfl
end Go.Proofs
namespace Go.Vsi
open Go.Proofs
theorem qNQ : qPS Tryz.prog 151 := ⟨fun n w h0 h1 ht => (Any.strconv_FormatInt_10 Tryz.fmtL n h0 h1 w ht).mono fun e w' ⟨he, q, os, hw⟩ => ⟨he, hw ▸ ⟨rfl, rfl, rfl, by rw [Sort.size_grow]; exact Nat.le_add_right _ _, fun k hk => Sort.heap_grow_old _ _ hk⟩⟩⟩
def X0 : CallF := qM1 (qI4 98) (qNd qLM 151)
theorem X0_mono : CallF.Mono X0 := qIz (qH7 _) (qJn qJQ 151)
set_option maxRecDepth 100000 in
theorem X0_ok : wB Tryz.prog C X0 := qLo (qKP qMr (by kernel_rfl) Tryz.func98 (by kernel_rfl) (by kernel_rfl)) (qMQ qNQ (by kernel_rfl) (by kernel_rfl) (by kernel_rfl) Tryz.func151 (by kernel_rfl) (by kernel_rfl))
theorem qM7 : ∀ args K, qH8 args K -> X0 98 args K := fun args K h => .inl ⟨rfl, h⟩
theorem qPM : ∀ args K, qLM args K -> X0 151 args K := fun args K h => .inr (⟨rfl, h⟩)
end Go.Vsi
end

section
namespace Go.Vsi
open Go.Proofs
section
variable (hX : CallF.Mono X0)
include hX
abbrev Z42.a : List TS := [.a [.o .str, .o (.int .i64)], .c (.o (.int .i64))]
def Z42.u (n : Nat) (v : VA Z42.a) (K : RES -> Prop) : Prop := Z42.c n v.1.1 v.1.2.1 v.2.1 (fun r0 => K ⟨.c (.int .i64 r0), []⟩)
theorem qOY : CT X0 36 Z42.a Z42.u :=
 ct hX Tryz.f36 (by kernel_rfl) (fun _ _ h => h) (D0 hX) nL (fun n v K => by kernel_rfl)
def D1 : CS X0 := oC (qOY hX) (D0 hX)
abbrev Z43.a : List TS := [.c (.o (.dat 72 Y13)), .c (.o (.int .i64))]
def Z43.u (n : Nat) (v : VA Z43.a) (K : RES -> Prop) : Prop := Z43.c n v.1 v.2.1 (fun r0 => K ⟨.c (.int .i64 r0), []⟩)
abbrev Z43.l5.s : ST := ⟨[(0, .c (.o (.dat 72 Y13))), (1, .c (.o (.int .i64))), (5, .c (.o (.int .i64)))], [], [], [], []⟩
def Z43.l5.u (n : Nat) (v : Z43.l5.s.V) (K : X -> St -> Prop) : Prop := Z43.l5 n v.1.1 v.1.2.1 v.1.2.2.1 (fun y0 => K (.exit 0) ⟨[(1, .c (.int .i64 y0))], [], [], [], []⟩) (fun y0 => K .ret ⟨[(4, .c (.int .i64 y0))], [], [], [], []⟩)
theorem Z43.l5_ok : LT X0 13 5 Z43.l5.s Z43.l5.u :=
 lt hX Tryz.f13 (by kernel_rfl) (fun _ _ h => h) (D1 hX) nL (fun n v K => by kernel_rfl)
theorem qOW : CT X0 13 Z43.a Z43.u :=
 ct hX Tryz.f13 (by kernel_rfl) (fun _ _ h => h) (D1 hX) (oL (Z43.l5_ok hX) nL) (fun n v K => by kernel_rfl)
def D2 : CS X0 := oC (qOW hX) (D1 hX)
abbrev Z48.a : List TS := [.c (.o (.dat 110 (.int .u64))), .c (.o (.int .i64))]
def Z48.u (n : Nat) (v : VA Z48.a) (K : RES -> Prop) : Prop := Z48.c n v.1 v.2.1 (fun r0 => K ⟨.c (.int .i64 r0), []⟩)
theorem qON : CT X0 160 Z48.a Z48.u :=
 ct hX Tryz.f160 (by kernel_rfl) (fun _ _ h => h) (D2 hX) nL (fun n v K => by kernel_rfl)
def D3 : CS X0 := oC (qON hX) (D2 hX)
abbrev Z41.a : List TS := [.a [.o (.int .i64), .o (.dat 110 (.int .u64))], .c (.o (.int .i64))]
def Z41.u (n : Nat) (v : VA Z41.a) (K : RES -> Prop) : Prop := Z41.c n v.1.1 v.1.2.1 v.2.1 (fun r0 => K ⟨.c (.int .i64 r0), []⟩)
theorem qO0 : CT X0 119 Z41.a Z41.u :=
 ct hX Tryz.f119 (by kernel_rfl) (fun _ _ h => h) (D3 hX) nL (fun n v K => by kernel_rfl)
def D4 : CS X0 := oC (qO0 hX) (D3 hX)
abbrev Z44.a : List TS := [.c (.o (.dat 2 (.int .i64))), .c (.o (.int .i64))]
def Z44.u (n : Nat) (v : VA Z44.a) (K : RES -> Prop) : Prop := Z44.c n v.1 v.2.1 (fun r0 => K ⟨.c (.int .i64 r0), []⟩)
theorem qOU : CT X0 120 Z44.a Z44.u :=
 ct hX Tryz.f120 (by kernel_rfl) (fun _ _ h => h) (D4 hX) nL (fun n v K => by kernel_rfl)
def D5 : CS X0 := oC (qOU hX) (D4 hX)
abbrev Z45.a : List TS := [.a [.o (.int .i64), .o (.int .i64), .o (.int .i64), .o (.int .i64), .o (.int .i64), .o (.dat 110 (.int .u64)), .o (.dat 2 (.int .i64))], .c (.o (.int .i64))]
def Z45.u (n : Nat) (v : VA Z45.a) (K : RES -> Prop) : Prop := Z45.c n v.1.1 v.1.2.1 v.1.2.2.1 v.1.2.2.2.1 v.1.2.2.2.2.1 v.1.2.2.2.2.2.1 v.1.2.2.2.2.2.2.1 v.2.1 (fun r0 => K ⟨.c (.int .i64 r0), []⟩)
theorem qOS : CT X0 75 Z45.a Z45.u :=
 ct hX Tryz.f75 (by kernel_rfl) (fun _ _ h => h) (D5 hX) nL (fun n v K => by kernel_rfl)
def D6 : CS X0 := oC (qOS hX) (D5 hX)
abbrev Z46.a : List TS := [.c (.o (.dat 114 Y3)), .c (.o (.int .i64))]
def Z46.u (n : Nat) (v : VA Z46.a) (K : RES -> Prop) : Prop := Z46.c n v.1 v.2.1 (fun r0 => K ⟨.c (.int .i64 r0), []⟩)
abbrev Z46.l5.s : ST := ⟨[(0, .c (.o (.dat 114 Y3))), (1, .c (.o (.int .i64))), (5, .c (.o (.int .i64)))], [], [], [], []⟩
def Z46.l5.u (n : Nat) (v : Z46.l5.s.V) (K : X -> St -> Prop) : Prop := Z46.l5 n v.1.1 v.1.2.1 v.1.2.2.1 (fun y0 => K (.exit 0) ⟨[(1, .c (.int .i64 y0))], [], [], [], []⟩) (fun y0 => K .ret ⟨[(4, .c (.int .i64 y0))], [], [], [], []⟩)
theorem Z46.l5_ok : LT X0 37 5 Z46.l5.s Z46.l5.u :=
 lt hX Tryz.f37 (by kernel_rfl) (fun _ _ h => h) (D6 hX) nL (fun n v K => by kernel_rfl)
theorem qOQ : CT X0 37 Z46.a Z46.u :=
 ct hX Tryz.f37 (by kernel_rfl) (fun _ _ h => h) (D6 hX) (oL (Z46.l5_ok hX) nL) (fun n v K => by kernel_rfl)
def D7 : CS X0 := oC (qOQ hX) (D6 hX)
abbrev Z47.a : List TS := [.a [.o (.dat 114 Y3)], .c (.o (.int .i64))]
def Z47.u (n : Nat) (v : VA Z47.a) (K : RES -> Prop) : Prop := Z47.c n v.1.1 v.2.1 (fun r0 => K ⟨.c (.int .i64 r0), []⟩)
theorem qOP : CT X0 14 Z47.a Z47.u :=
 ct hX Tryz.f14 (by kernel_rfl) (fun _ _ h => h) (D7 hX) nL (fun n v K => by kernel_rfl)
def D8 : CS X0 := oC (qOP hX) (D7 hX)
abbrev Z50.a : List TS := [.a [.o .str, .o (.int .i64)]]
def Z50.u (n : Nat) (v : VA Z50.a) (K : RES -> Prop) : Prop := Z50.c n v.1.1 v.1.2.1 (fun r0 r1 => K ⟨.agg [.str r0, .int .i64 r1], []⟩)
theorem qOJ : CT X0 39 Z50.a Z50.u :=
 ct hX Tryz.f39 (by kernel_rfl) (fun _ _ h => h) (D8 hX) nL (fun n v K => by kernel_rfl)
def D9 : CS X0 := oC (qOJ hX) (D8 hX)
abbrev Z51.a : List TS := [.c (.o (.dat 72 Y13))]
def Z51.u (n : Nat) (v : VA Z51.a) (K : RES -> Prop) : Prop := Z51.c n v.1 (fun r0 => K ⟨.c (.row ⟨65, .prod .str (.int .i64), r0, 99, none, []⟩), []⟩)
abbrev Z51.l3.s : ST := ⟨[(0, .c (.o (.dat 72 Y13))), (3, .c (.o (.own 224))), (4, .c (.o (.int .i64)))], [⟨224, 65, .prod .str (.int .i64), 99, .row⟩], [], [], []⟩
def Z51.l3.u (n : Nat) (v : Z51.l3.s.V) (K : X -> St -> Prop) : Prop := Z51.l3 n v.1.1 v.1.2.2.1 v.2.1.1 (fun y0 => K (.exit 0) ⟨[(3, .c (.own 224))], [(224, ⟨65, .prod .str (.int .i64), y0, 99, none, []⟩)], [], [], []⟩)
theorem Z51.l3_ok : LT X0 16 3 Z51.l3.s Z51.l3.u :=
 lt hX Tryz.f16 (by kernel_rfl) (fun _ _ h => h) (D9 hX) nL (fun n v K => by kernel_rfl)
theorem qOH : CT X0 16 Z51.a Z51.u :=
 ct hX Tryz.f16 (by kernel_rfl) (fun _ _ h => h) (D9 hX) (oL (Z51.l3_ok hX) nL) (fun n v K => by kernel_rfl)
def D10 : CS X0 := oC (qOH hX) (D9 hX)
abbrev Z56.a : List TS := [.c (.o (.dat 110 (.int .u64)))]
def Z56.u (n : Nat) (v : VA Z56.a) (K : RES -> Prop) : Prop := Z56.c n v.1 (fun r0 => K ⟨.c (.row ⟨110, .int .u64, r0, 99, none, []⟩), []⟩)
abbrev Z56.l3.s : ST := ⟨[(0, .c (.o (.dat 110 (.int .u64)))), (3, .c (.o (.own 224))), (4, .c (.o (.int .i64)))], [⟨224, 110, .int .u64, 99, .row⟩], [], [], []⟩
def Z56.l3.u (n : Nat) (v : Z56.l3.s.V) (K : X -> St -> Prop) : Prop := Z56.l3 n v.1.1 v.1.2.2.1 v.2.1.1 (fun y0 => K (.exit 0) ⟨[(3, .c (.own 224))], [(224, ⟨110, .int .u64, y0, 99, none, []⟩)], [], [], []⟩)
theorem Z56.l3_ok : LT X0 161 3 Z56.l3.s Z56.l3.u :=
 lt hX Tryz.f161 (by kernel_rfl) (fun _ _ h => h) (D10 hX) nL (fun n v K => by kernel_rfl)
theorem qOy : CT X0 161 Z56.a Z56.u :=
 ct hX Tryz.f161 (by kernel_rfl) (fun _ _ h => h) (D10 hX) (oL (Z56.l3_ok hX) nL) (fun n v K => by kernel_rfl)
def D11 : CS X0 := oC (qOy hX) (D10 hX)
abbrev Z49.a : List TS := [.a [.o (.int .i64), .o (.dat 110 (.int .u64))]]
def Z49.u (n : Nat) (v : VA Z49.a) (K : RES -> Prop) : Prop := Z49.c n v.1.1 v.1.2.1 (fun r0 r1 => K ⟨.agg [.int .i64 r0, .row ⟨110, .int .u64, r1, 99, none, []⟩], []⟩)
theorem qOL : CT X0 123 Z49.a Z49.u :=
 ct hX Tryz.f123 (by kernel_rfl) (fun _ _ h => h) (D11 hX) nL (fun n v K => by kernel_rfl)
def D12 : CS X0 := oC (qOL hX) (D11 hX)
abbrev Z52.a : List TS := [.c (.o (.dat 2 (.int .i64)))]
def Z52.u (n : Nat) (v : VA Z52.a) (K : RES -> Prop) : Prop := Z52.c n v.1 (fun r0 => K ⟨.c (.row ⟨2, .int .i64, r0, 99, none, []⟩), []⟩)
abbrev Z52.l3.s : ST := ⟨[(0, .c (.o (.dat 2 (.int .i64)))), (3, .c (.o (.own 224))), (4, .c (.o (.int .i64)))], [⟨224, 2, .int .i64, 99, .row⟩], [], [], []⟩
def Z52.l3.u (n : Nat) (v : Z52.l3.s.V) (K : X -> St -> Prop) : Prop := Z52.l3 n v.1.1 v.1.2.2.1 v.2.1.1 (fun y0 => K (.exit 0) ⟨[(3, .c (.own 224))], [(224, ⟨2, .int .i64, y0, 99, none, []⟩)], [], [], []⟩)
theorem Z52.l3_ok : LT X0 124 3 Z52.l3.s Z52.l3.u :=
 lt hX Tryz.f124 (by kernel_rfl) (fun _ _ h => h) (D12 hX) nL (fun n v K => by kernel_rfl)
theorem qOF : CT X0 124 Z52.a Z52.u :=
 ct hX Tryz.f124 (by kernel_rfl) (fun _ _ h => h) (D12 hX) (oL (Z52.l3_ok hX) nL) (fun n v K => by kernel_rfl)
def D13 : CS X0 := oC (qOF hX) (D12 hX)
abbrev Z53.a : List TS := [.a [.o (.int .i64), .o (.int .i64), .o (.int .i64), .o (.int .i64), .o (.int .i64), .o (.dat 110 (.int .u64)), .o (.dat 2 (.int .i64))]]
def Z53.u (n : Nat) (v : VA Z53.a) (K : RES -> Prop) : Prop := Z53.c n v.1.1 v.1.2.1 v.1.2.2.1 v.1.2.2.2.1 v.1.2.2.2.2.1 v.1.2.2.2.2.2.1 v.1.2.2.2.2.2.2.1 (fun r0 r1 r2 r3 r4 r5 r6 => K ⟨.agg [.int .i64 r0, .int .i64 r1, .int .i64 r2, .int .i64 r3, .int .i64 r4, .row ⟨110, .int .u64, r5, 99, none, []⟩, .row ⟨2, .int .i64, r6, 99, none, []⟩], []⟩)
theorem qOD : CT X0 78 Z53.a Z53.u :=
 ct hX Tryz.f78 (by kernel_rfl) (fun _ _ h => h) (D13 hX) nL (fun n v K => by kernel_rfl)
def D14 : CS X0 := oC (qOD hX) (D13 hX)
abbrev Z54.a : List TS := [.c (.o (.dat 114 Y3))]
def Z54.u (n : Nat) (v : VA Z54.a) (K : RES -> Prop) : Prop := Z54.c n v.1 (fun r0 => K ⟨.c (.row ⟨63, .prod (.int .i64) Y4, r0, 99, none, []⟩), []⟩)
abbrev Z54.l3.s : ST := ⟨[(0, .c (.o (.dat 114 Y3))), (3, .c (.o (.own 224))), (4, .c (.o (.int .i64)))], [⟨224, 63, .prod (.int .i64) Y4, 99, .row⟩], [], [], []⟩
def Z54.l3.u (n : Nat) (v : Z54.l3.s.V) (K : X -> St -> Prop) : Prop := Z54.l3 n v.1.1 v.1.2.2.1 v.2.1.1 (fun y0 => K (.exit 0) ⟨[(3, .c (.own 224))], [(224, ⟨63, .prod (.int .i64) Y4, y0, 99, none, []⟩)], [], [], []⟩)
theorem Z54.l3_ok : LT X0 40 3 Z54.l3.s Z54.l3.u :=
 lt hX Tryz.f40 (by kernel_rfl) (fun _ _ h => h) (D14 hX) nL (fun n v K => by kernel_rfl)
theorem qOB : CT X0 40 Z54.a Z54.u :=
 ct hX Tryz.f40 (by kernel_rfl) (fun _ _ h => h) (D14 hX) (oL (Z54.l3_ok hX) nL) (fun n v K => by kernel_rfl)
def D15 : CS X0 := oC (qOB hX) (D14 hX)
abbrev Z55.a : List TS := [.a [.o (.dat 114 Y3)]]
def Z55.u (n : Nat) (v : VA Z55.a) (K : RES -> Prop) : Prop := Z55.c n v.1.1 (fun r0 => K ⟨.agg [.row ⟨63, .prod (.int .i64) Y4, r0, 99, none, []⟩], []⟩)
theorem qOA : CT X0 17 Z55.a Z55.u :=
 ct hX Tryz.f17 (by kernel_rfl) (fun _ _ h => h) (D15 hX) nL (fun n v K => by kernel_rfl)
def D16 : CS X0 := oC (qOA hX) (D15 hX)
abbrev Z71.a : List TS := [.c (.o (.int .u8))]
def Z71.u (n : Nat) (v : VA Z71.a) (K : RES -> Prop) : Prop := Z71.c n v.1 (fun r0 => K ⟨.c (.bool r0), []⟩)
theorem qOg : CT X0 128 Z71.a Z71.u :=
 ct hX Tryz.f128 (by kernel_rfl) (fun _ _ h => h) (D16 hX) nL (fun n v K => by kernel_rfl)
def D17 : CS X0 := oC (qOg hX) (D16 hX)
abbrev Z73.a : List TS := [.c (.o .str)]
def Z73.u (n : Nat) (v : VA Z73.a) (K : RES -> Prop) : Prop := Z73.c n v.1 (fun r0 => K ⟨.c (.bool r0), []⟩)
abbrev Z73.l4.s : ST := ⟨[(0, .c (.o .str)), (3, .c (.o (.int .i64)))], [], [], [], []⟩
def Z73.l4.u (n : Nat) (v : Z73.l4.s.V) (K : X -> St -> Prop) : Prop := Z73.l4 n v.1.1 v.1.2.1 (K (.exit 0) ⟨[], [], [], [], []⟩) (fun y0 => K .ret ⟨[(2, .c (.bool y0))], [], [], [], []⟩)
theorem Z73.l4_ok : LT X0 86 4 Z73.l4.s Z73.l4.u :=
 lt hX Tryz.f86 (by kernel_rfl) (fun _ _ h => h) (D17 hX) nL (fun n v K => by kernel_rfl)
theorem qOe : CT X0 86 Z73.a Z73.u :=
 ct hX Tryz.f86 (by kernel_rfl) (fun _ _ h => h) (D17 hX) (oL (Z73.l4_ok hX) nL) (fun n v K => by kernel_rfl)
def D18 : CS X0 := oC (qOe hX) (D17 hX)
abbrev Z72.a : List TS := [.c (.o (.int .i64)), .c (.o (.int .i64)), .c (.o (.int .i64))]
def Z72.u (n : Nat) (v : VA Z72.a) (K : RES -> Prop) : Prop := Z72.c n v.1 v.2.1 v.2.2.1 (fun r0 => K ⟨.c (.bool r0), []⟩)
theorem qOf : CT X0 53 Z72.a Z72.u :=
 ct hX Tryz.f53 (by kernel_rfl) (fun _ _ h => h) (D18 hX) nL (fun n v K => by kernel_rfl)
def D19 : CS X0 := oC (qOf hX) (D18 hX)
abbrev Z67.a : List TS := [.c (.o (.dat 65 Y13))]
def Z67.u (n : Nat) (v : VA Z67.a) (K : RES -> Prop) : Prop := Z67.c n v.1 (fun r0 => K ⟨.c (.bool r0), []⟩)
abbrev Z67.l10.s : ST := ⟨[(0, .c (.o (.dat 65 Y13))), (3, .c (.o (.int .i64))), (4, .c (.o (.int .i64))), (5, .c (.o (.int .i64)))], [], [], [], []⟩
def Z67.l10.u (n : Nat) (v : Z67.l10.s.V) (K : X -> St -> Prop) : Prop := Z67.l10 n v.1.1 v.1.2.1 v.1.2.2.1 v.1.2.2.2.1 (fun y0 y1 y2 => K (.exit 2) ⟨[(0, .c (.dat 65 Y13 y0)), (3, .c (.int .i64 y1)), (4, .c (.int .i64 y2))], [], [], [], []⟩) (fun y0 => K .ret ⟨[(2, .c (.bool y0))], [], [], [], []⟩)
abbrev Z67.l5.s : ST := ⟨[(0, .c (.o (.dat 65 Y13))), (3, .c (.o (.int .i64))), (4, .c (.o (.int .i64)))], [], [], [], []⟩
def Z67.l5.u (n : Nat) (v : Z67.l5.s.V) (K : X -> St -> Prop) : Prop := Z67.l5 n v.1.1 v.1.2.1 v.1.2.2.1 (fun y0 => K (.exit 0) ⟨[(3, .c (.int .i64 y0))], [], [], [], []⟩) (fun y0 => K .ret ⟨[(2, .c (.bool y0))], [], [], [], []⟩)
theorem Z67.l10_ok : LT X0 47 10 Z67.l10.s Z67.l10.u :=
 lt hX Tryz.f47 (by kernel_rfl) (fun _ _ h => h) (D19 hX) nL (fun n v K => by kernel_rfl)
theorem Z67.l5_ok : LT X0 47 5 Z67.l5.s Z67.l5.u :=
 lt hX Tryz.f47 (by kernel_rfl) (fun _ _ h => h) (D19 hX) (oL (Z67.l10_ok hX) nL) (fun n v K => by kernel_rfl)
theorem qOk : CT X0 47 Z67.a Z67.u :=
 ct hX Tryz.f47 (by kernel_rfl) (fun _ _ h => h) (D19 hX) (oL (Z67.l5_ok hX) nL) (fun n v K => by kernel_rfl)
def D20 : CS X0 := oC (qOk hX) (D19 hX)
abbrev Z76.a : List TS := [.a [.o (.int .i64), .o (.dat 110 (.int .u64))]]
def Z76.u (n : Nat) (v : VA Z76.a) (K : RES -> Prop) : Prop := Z76.c n v.1.1 v.1.2.1 (fun r0 => K ⟨.c (.bool r0), []⟩)
theorem qOb : CT X0 105 Z76.a Z76.u :=
 ct hX Tryz.f105 (by kernel_rfl) (fun _ _ h => h) (D20 hX) nL (fun n v K => by kernel_rfl)
def D21 : CS X0 := oC (qOb hX) (D20 hX)
abbrev Z77.a : List TS := [.c (.o (.int .i64))]
def Z77.u (n : Nat) (v : VA Z77.a) (K : RES -> Prop) : Prop := Z77.c n v.1 (fun r0 => K ⟨.c (.bool r0), []⟩)
theorem qOa : CT X0 169 Z77.a Z77.u :=
 ct hX Tryz.f169 (by kernel_rfl) (fun _ _ h => h) (D21 hX) nL (fun n v K => by kernel_rfl)
def D22 : CS X0 := oC (qOa hX) (D21 hX)
abbrev Z70.a : List TS := [.a [.o (.int .i64), .o (.dat 110 (.int .u64))], .c (.o (.int .i64))]
def Z70.u (n : Nat) (v : VA Z70.a) (K : RES -> Prop) : Prop := Z70.c n v.1.1 v.1.2.1 v.2.1 (fun r0 => K ⟨.c (.int .u8 r0), []⟩)
theorem qOh : CT X0 121 Z70.a Z70.u :=
 ct hX Tryz.f121 (by kernel_rfl) (fun _ _ h => h) (D22 hX) nL (fun n v K => by kernel_rfl)
def D23 : CS X0 := oC (qOh hX) (D22 hX)
abbrev Z66.a : List TS := [.a [.o (.int .i64), .o (.dat 110 (.int .u64))]]
def Z66.u (n : Nat) (v : VA Z66.a) (K : RES -> Prop) : Prop := Z66.c n v.1.1 v.1.2.1 (fun r0 => K ⟨.c (.bool r0), []⟩)
abbrev Z66.l4.s : ST := ⟨[(1, .c (.o (.pbox 1 0))), (3, .c (.o (.int .i64)))], [], [⟨1, 59, [.o (.int .i64), .o (.dat 110 (.int .u64))], false, false⟩], [], []⟩
def Z66.l4.u (n : Nat) (v : Z66.l4.s.V) (K : X -> St -> Prop) : Prop := Z66.l4 n v.2.2.1.1 v.2.2.1.2.1 v.1.2.1 (K (.exit 0) ⟨[], [], [], [], []⟩) (fun y0 => K .ret ⟨[(2, .c (.bool y0))], [], [], [], []⟩)
theorem Z66.l4_ok : LT X0 104 4 Z66.l4.s Z66.l4.u :=
 lt hX Tryz.f104 (by kernel_rfl) (fun _ _ h => h) (D23 hX) nL (fun n v K => by kernel_rfl)
theorem qOl : CT X0 104 Z66.a Z66.u :=
 ct hX Tryz.f104 (by kernel_rfl) (fun _ _ h => h) (D23 hX) (oL (Z66.l4_ok hX) nL) (fun n v K => by kernel_rfl)
def D24 : CS X0 := oC (qOl hX) (D23 hX)
abbrev Z75.a : List TS := [.c (.o (.dat 65 Y13)), .a [.o (.int .i64), .o (.int .i64), .o (.int .i64), .o (.int .i64), .o (.int .i64), .o (.dat 110 (.int .u64)), .o (.dat 2 (.int .i64))], .c (.o (.int .i64))]
def Z75.u (n : Nat) (v : VA Z75.a) (K : RES -> Prop) : Prop := Z75.c n v.1 v.2.1.1 v.2.1.2.1 v.2.1.2.2.1 v.2.1.2.2.2.1 v.2.1.2.2.2.2.1 v.2.1.2.2.2.2.2.1 v.2.1.2.2.2.2.2.2.1 v.2.2.1 (fun r0 => K ⟨.c (.bool r0), []⟩)
abbrev Z75.l2.s : ST := ⟨[(0, .c (.o (.dat 65 Y13))), (2, .c (.o (.int .i64))), (4, .c (.o (.pbox 4 0))), (7, .c (.o (.int .i64)))], [], [⟨4, 63, [.o (.int .i64), .o (.int .i64), .o (.int .i64), .o (.int .i64), .o (.int .i64), .o (.dat 110 (.int .u64)), .o (.dat 2 (.int .i64))], false, false⟩], [], []⟩
def Z75.l2.u (n : Nat) (v : Z75.l2.s.V) (K : X -> St -> Prop) : Prop := Z75.l2 n v.1.1 v.1.2.1 v.2.2.1.1 v.2.2.1.2.1 v.2.2.1.2.2.1 v.2.2.1.2.2.2.1 v.2.2.1.2.2.2.2.1 v.2.2.1.2.2.2.2.2.1 v.2.2.1.2.2.2.2.2.2.1 v.1.2.2.2.1 (fun y0 y1 y2 y3 y4 y5 y6 y7 => K (.exit 0) ⟨[(0, .c (.dat 65 Y13 y0)), (4, .c (.pbox 4 0))], [], [(4, ⟨63, [.int .i64 y1, .int .i64 y2, .int .i64 y3, .int .i64 y4, .int .i64 y5, .dat 110 (.int .u64) y6, .dat 2 (.int .i64) y7], false, false⟩)], [], []⟩) (fun y0 => K .ret ⟨[(6, .c (.bool y0))], [], [], [], []⟩)
abbrev Z75.q7.s : ST := ⟨[(0, .c (.o (.dat 65 Y13))), (4, .c (.o (.pbox 4 0))), (63, .c (.o .bool))], [], [⟨4, 63, [.o (.int .i64), .o (.int .i64), .o (.int .i64), .o (.int .i64), .o (.int .i64), .o (.dat 110 (.int .u64)), .o (.dat 2 (.int .i64))], false, false⟩], [], []⟩
def Z75.q7.u (n : Nat) (v : Z75.q7.s.V) (K : X -> St -> Prop) : Prop := Z75.q7 n v.1.1 v.1.2.2.1 v.2.2.1.1 v.2.2.1.2.1 v.2.2.1.2.2.1 v.2.2.1.2.2.2.1 v.2.2.1.2.2.2.2.1 v.2.2.1.2.2.2.2.2.1 v.2.2.1.2.2.2.2.2.2.1 (fun y0 => K .ret ⟨[(6, .c (.bool y0))], [], [], [], []⟩) (fun y0 y1 y2 y3 y4 y5 y6 y7 => K .normal ⟨[(0, .c (.dat 65 Y13 y0)), (4, .c (.pbox 4 0))], [], [(4, ⟨63, [.int .i64 y1, .int .i64 y2, .int .i64 y3, .int .i64 y4, .int .i64 y5, .dat 110 (.int .u64) y6, .dat 2 (.int .i64) y7], false, false⟩)], [], []⟩)
abbrev Z75.q8.s : ST := ⟨[(0, .c (.o (.dat 65 Y13))), (4, .c (.o (.pbox 4 0)))], [], [⟨4, 63, [.o (.int .i64), .o (.int .i64), .o (.int .i64), .o (.int .i64), .o (.int .i64), .o (.dat 110 (.int .u64)), .o (.dat 2 (.int .i64))], false, false⟩], [], []⟩
def Z75.q8.u (n : Nat) (v : Z75.q8.s.V) (K : X -> St -> Prop) : Prop := Z75.q8 n v.1.1 v.2.2.1.1 v.2.2.1.2.1 v.2.2.1.2.2.1 v.2.2.1.2.2.2.1 v.2.2.1.2.2.2.2.1 v.2.2.1.2.2.2.2.2.1 v.2.2.1.2.2.2.2.2.2.1 (fun y0 => K .ret ⟨[(6, .c (.bool y0))], [], [], [], []⟩)
theorem Z75.l2_ok : LT X0 144 2 Z75.l2.s Z75.l2.u :=
 lt hX Tryz.f144 (by kernel_rfl) (fun _ _ h => h) (D24 hX) nL (fun n v K => by kernel_rfl)
theorem Z75.q7_ok : LT X0 144 1000007 Z75.q7.s Z75.q7.u :=
 cu hX Tryz.f144 (by kernel_rfl) (fun _ _ h => h) (D24 hX) nL (fun n v K => by kernel_rfl)
theorem Z75.q8_ok : LT X0 144 1000008 Z75.q8.s Z75.q8.u :=
 cu hX Tryz.f144 (by kernel_rfl) (fun _ _ h => h) (D24 hX) nL (fun n v K => by kernel_rfl)
theorem qOc : CT X0 144 Z75.a Z75.u :=
 ct hX Tryz.f144 (by kernel_rfl) (fun _ _ h => h) (D24 hX) (oL (Z75.l2_ok hX) (oL (Z75.q7_ok hX) (oL (Z75.q8_ok hX) nL))) (fun n v K => by kernel_rfl)
def D25 : CS X0 := oC (qOc hX) (D24 hX)
abbrev Z82.a : List TS := [.c (.o (.dat 65 Y13)), .a [.o (.int .i64), .o (.int .i64), .o (.int .i64), .o (.int .i64), .o (.int .i64), .o (.dat 110 (.int .u64)), .o (.dat 2 (.int .i64))], .c (.o (.dat 2 (.int .i64)))]
def Z82.u (n : Nat) (v : VA Z82.a) (K : RES -> Prop) : Prop := Z82.c n v.1 v.2.1.1 v.2.1.2.1 v.2.1.2.2.1 v.2.1.2.2.2.1 v.2.1.2.2.2.2.1 v.2.1.2.2.2.2.2.1 v.2.1.2.2.2.2.2.2.1 v.2.2.1 (fun r0 => K ⟨.c (.int .i64 r0), []⟩)
abbrev Z82.l3.s : ST := ⟨[(0, .c (.o (.dat 65 Y13))), (2, .c (.o (.dat 2 (.int .i64)))), (4, .c (.o (.pbox 4 0))), (7, .c (.o (.int .i64))), (8, .c (.o (.int .i64)))], [], [⟨4, 63, [.o (.int .i64), .o (.int .i64), .o (.int .i64), .o (.int .i64), .o (.int .i64), .o (.dat 110 (.int .u64)), .o (.dat 2 (.int .i64))], false, false⟩], [], []⟩
def Z82.l3.u (n : Nat) (v : Z82.l3.s.V) (K : X -> St -> Prop) : Prop := Z82.l3 n v.1.1 v.1.2.1 v.2.2.1.1 v.2.2.1.2.1 v.2.2.1.2.2.1 v.2.2.1.2.2.2.1 v.2.2.1.2.2.2.2.1 v.2.2.1.2.2.2.2.2.1 v.2.2.1.2.2.2.2.2.2.1 v.1.2.2.2.1 v.1.2.2.2.2.1 (fun y0 y1 y2 y3 y4 y5 y6 y7 y8 => K (.exit 0) ⟨[(0, .c (.dat 65 Y13 y0)), (4, .c (.pbox 4 0)), (7, .c (.int .i64 y1))], [], [(4, ⟨63, [.int .i64 y2, .int .i64 y3, .int .i64 y4, .int .i64 y5, .int .i64 y6, .dat 110 (.int .u64) y7, .dat 2 (.int .i64) y8], false, false⟩)], [], []⟩)
theorem Z82.l3_ok : LT X0 89 3 Z82.l3.s Z82.l3.u :=
 lt hX Tryz.f89 (by kernel_rfl) (fun _ _ h => h) (D25 hX) nL (fun n v K => by kernel_rfl)
theorem qN5 : CT X0 89 Z82.a Z82.u :=
 ct hX Tryz.f89 (by kernel_rfl) (fun _ _ h => h) (D25 hX) (oL (Z82.l3_ok hX) nL) (fun n v K => by kernel_rfl)
def D26 : CS X0 := oC (qN5 hX) (D25 hX)
abbrev Z83.a : List TS := [.c (.o (.dat 65 Y13)), .a [.o (.dat 63 Y3)]]
def Z83.u (n : Nat) (v : VA Z83.a) (K : RES -> Prop) : Prop := Z83.c n v.1 v.2.1.1 (fun r0 => K ⟨.c (.row ⟨2, .int .i64, r0, 99, none, []⟩), []⟩)
abbrev Z83.l16.s : ST := ⟨[(0, .c (.o (.dat 65 Y13))), (3, .c (.o (.pbox 3 0))), (5, .c (.o (.own 384))), (6, .c (.o (.own 2112))), (7, .c (.o (.own 1056))), (8, .c (.o (.int .i64))), (10, .c (.o (.int .i64)))], [⟨384, 2, .int .i64, 99, .row⟩, ⟨1056, 4, .bool, 99, .row⟩, ⟨2112, 2, .int .i64, 99, .row⟩], [⟨3, 30, [.o (.dat 63 Y3)], false, false⟩], [], []⟩
def Z83.l16.u (n : Nat) (v : Z83.l16.s.V) (K : X -> St -> Prop) : Prop := Z83.l16 n v.1.1 v.1.2.2.2.2.2.1 v.2.1.1 v.2.1.2.2.1 v.2.2.1.1 v.1.2.2.2.2.2.2.1 v.2.1.2.1 (fun y0 y1 y2 y3 y4 y5 => K (.exit 2) ⟨[(0, .c (.dat 65 Y13 y0)), (3, .c (.pbox 3 0)), (5, .c (.own 384)), (6, .c (.own 2112)), (7, .c (.own 1056)), (8, .c (.int .i64 y1))], [(384, ⟨2, .int .i64, y2, 99, none, []⟩), (1056, ⟨4, .bool, y3, 99, none, []⟩), (2112, ⟨2, .int .i64, y4, 99, none, []⟩)], [(3, ⟨30, [.dat 63 Y3 y5], false, false⟩)], [], []⟩)
abbrev Z83.l7.s : ST := ⟨[(0, .c (.o (.dat 65 Y13))), (3, .c (.o (.pbox 3 0))), (5, .c (.o (.own 384))), (6, .c (.o (.own 192))), (7, .c (.o (.own 1056))), (8, .c (.o (.int .i64)))], [⟨192, 2, .int .i64, 99, .row⟩, ⟨384, 2, .int .i64, 99, .row⟩, ⟨1056, 4, .bool, 99, .row⟩], [⟨3, 30, [.o (.dat 63 Y3)], false, false⟩], [], []⟩
def Z83.l7.u (n : Nat) (v : Z83.l7.s.V) (K : X -> St -> Prop) : Prop := Z83.l7 n v.1.1 v.1.2.2.2.2.2.1 v.2.1.1 v.2.1.2.1 v.2.1.2.2.1 v.2.2.1.1 (fun y0 y1 y2 => K (.exit 0) ⟨[(5, .c (.own 384)), (6, .c (.own 192)), (7, .c (.own 1056))], [(192, ⟨2, .int .i64, y0, 99, none, []⟩), (384, ⟨2, .int .i64, y1, 99, none, []⟩), (1056, ⟨4, .bool, y2, 99, none, []⟩)], [], [], []⟩) (fun y0 => K .ret ⟨[(4, .c (.own 384))], [(384, ⟨2, .int .i64, y0, 99, none, []⟩)], [], [], []⟩)
abbrev Z83.l20.s : ST := ⟨[(5, .c (.o (.own 384))), (6, .c (.o (.own 192))), (7, .c (.o (.own 1056))), (11, .c (.o (.int .i64)))], [⟨192, 2, .int .i64, 99, .row⟩, ⟨384, 2, .int .i64, 99, .row⟩, ⟨1056, 4, .bool, 99, .row⟩], [], [], []⟩
def Z83.l20.u (n : Nat) (v : Z83.l20.s.V) (K : X -> St -> Prop) : Prop := Z83.l20 n v.2.1.1 v.2.1.2.1 v.2.1.2.2.1 v.1.2.2.2.1 (fun y0 => K (.exit 4) ⟨[(6, .c (.own 192))], [(192, ⟨2, .int .i64, y0, 99, none, []⟩)], [], [], []⟩) (fun y0 => K .ret ⟨[(4, .c (.own 384))], [(384, ⟨2, .int .i64, y0, 99, none, []⟩)], [], [], []⟩)
theorem Z83.l16_ok : LT X0 96 16 Z83.l16.s Z83.l16.u :=
 lt hX Tryz.f96 (by kernel_rfl) (fun _ _ h => h) (D26 hX) nL (fun n v K => by kernel_rfl)
theorem Z83.l7_ok : LT X0 96 7 Z83.l7.s Z83.l7.u :=
 lt hX Tryz.f96 (by kernel_rfl) (fun _ _ h => h) (D26 hX) (oL (Z83.l16_ok hX) nL) (fun n v K => by kernel_rfl)
theorem Z83.l20_ok : LT X0 96 20 Z83.l20.s Z83.l20.u :=
 lt hX Tryz.f96 (by kernel_rfl) (fun _ _ h => h) (D26 hX) nL (fun n v K => by kernel_rfl)
theorem qN4 : CT X0 96 Z83.a Z83.u :=
 ct hX Tryz.f96 (by kernel_rfl) (fun _ _ h => h) (D26 hX) (oL (Z83.l7_ok hX) (oL (Z83.l20_ok hX) nL)) (fun n v K => by kernel_rfl)
def D27 : CS X0 := oC (qN4 hX) (D26 hX)
abbrev Z69.a : List TS := [.c (.o (.dat 65 Y13)), .a [.o (.dat 63 Y3)]]
def Z69.u (n : Nat) (v : VA Z69.a) (K : RES -> Prop) : Prop := Z69.c n v.1 v.2.1.1 (fun r0 => K ⟨.c (.int .i64 r0), []⟩)
theorem qOi : CT X0 52 Z69.a Z69.u :=
 ct hX Tryz.f52 (by kernel_rfl) (fun _ _ h => h) (D27 hX) nL (fun n v K => by kernel_rfl)
def D28 : CS X0 := oC (qOi hX) (D27 hX)
abbrev Z74.a : List TS := [.a [.o (.int .i64), .o (.int .i64), .o (.int .i64), .o (.int .i64), .o (.int .i64), .o (.dat 110 (.int .u64)), .o (.dat 2 (.int .i64))]]
def Z74.u (n : Nat) (v : VA Z74.a) (K : RES -> Prop) : Prop := Z74.c n v.1.1 v.1.2.1 v.1.2.2.1 v.1.2.2.2.1 v.1.2.2.2.2.1 v.1.2.2.2.2.2.1 v.1.2.2.2.2.2.2.1 (fun r0 r1 r2 r3 r4 r5 r6 => K ⟨.agg [.int .i64 r0, .int .i64 r1, .int .i64 r2, .int .i64 r3, .int .i64 r4, .row ⟨110, .int .u64, r5, 99, none, []⟩, .row ⟨2, .int .i64, r6, 99, none, []⟩], []⟩)
theorem qOd : CT X0 54 Z74.a Z74.u :=
 ct hX Tryz.f54 (by kernel_rfl) (fun _ _ h => h) (D28 hX) nL (fun n v K => by kernel_rfl)
def D29 : CS X0 := oC (qOd hX) (D28 hX)
abbrev Z78.a : List TS := [.c (.o (.dat 63 Y3)), .c (.o (.int .i64))]
def Z78.u (n : Nat) (v : VA Z78.a) (K : RES -> Prop) : Prop := Z78.c n v.1 v.2.1 (fun r0 => K ⟨.c (.row ⟨63, .prod (.int .i64) Y4, r0, 99, none, []⟩), []⟩)
abbrev Z78.l8.s : ST := ⟨[(0, .c (.o (.dat 63 Y3))), (5, .c (.o (.own 480))), (6, .c (.o (.own 672))), (7, .c (.o (.int .i64))), (8, .c (.o (.int .i64)))], [⟨480, 4, .bool, 99, .row⟩, ⟨672, 2, .int .i64, 99, .row⟩], [], [], []⟩
def Z78.l8.u (n : Nat) (v : Z78.l8.s.V) (K : X -> St -> Prop) : Prop := Z78.l8 n v.1.1 v.1.2.2.2.1 v.2.1.2.1 v.1.2.2.2.2.1 v.2.1.1 (fun y0 y1 y2 y3 => K (.exit 2) ⟨[(0, .c (.dat 63 Y3 y0)), (5, .c (.own 480)), (6, .c (.own 672)), (7, .c (.int .i64 y1))], [(480, ⟨4, .bool, y2, 99, none, []⟩), (672, ⟨2, .int .i64, y3, 99, none, []⟩)], [], [], []⟩)
abbrev Z78.l5.s : ST := ⟨[(0, .c (.o (.dat 63 Y3))), (5, .c (.o (.own 480))), (6, .c (.o (.own 672))), (7, .c (.o (.int .i64)))], [⟨480, 4, .bool, 99, .row⟩, ⟨672, 2, .int .i64, 99, .row⟩], [], [], []⟩
def Z78.l5.u (n : Nat) (v : Z78.l5.s.V) (K : X -> St -> Prop) : Prop := Z78.l5 n v.1.1 v.1.2.2.2.1 v.2.1.1 v.2.1.2.1 (fun y0 y1 y2 => K (.exit 0) ⟨[(0, .c (.dat 63 Y3 y0)), (5, .c (.own 480)), (6, .c (.own 672))], [(480, ⟨4, .bool, y1, 99, none, []⟩), (672, ⟨2, .int .i64, y2, 99, none, []⟩)], [], [], []⟩)
abbrev Z78.l18.s : ST := ⟨[(0, .c (.o (.dat 63 Y3))), (5, .c (.o (.own 480))), (6, .c (.o (.own 672))), (9, .c (.o (.own 288))), (10, .c (.o (.int .i64))), (11, .c (.o (.pbox 11 0))), (12, .c (.o (.int .i64)))], [⟨288, 63, .prod (.int .i64) Y4, 99, .row⟩, ⟨480, 4, .bool, 99, .row⟩, ⟨672, 2, .int .i64, 99, .row⟩, ⟨2277, 110, .int .u64, 99, .row⟩, ⟨2278, 2, .int .i64, 99, .row⟩], [⟨11, 63, [.o (.int .i64), .o (.int .i64), .o (.int .i64), .o (.int .i64), .o (.int .i64), .o (.own 2277), .o (.own 2278)], false, false⟩], [], []⟩
def Z78.l18.u (n : Nat) (v : Z78.l18.s.V) (K : X -> St -> Prop) : Prop := Z78.l18 n v.1.1 v.1.2.2.2.2.1 v.2.1.1 v.2.1.2.1 v.2.1.2.2.1 v.2.1.2.2.2.1 v.2.2.1.1 v.2.2.1.2.1 v.2.2.1.2.2.1 v.2.2.1.2.2.2.1 v.2.2.1.2.2.2.2.1 v.1.2.2.2.2.2.2.1 v.2.1.2.2.2.2.1 (fun y0 y1 y2 y3 y4 y5 y6 y7 y8 y9 y10 y11 => K (.exit 6) ⟨[(0, .c (.dat 63 Y3 y0)), (5, .c (.own 480)), (6, .c (.own 672)), (9, .c (.own 288)), (10, .c (.int .i64 y1)), (11, .c (.pbox 11 0))], [(288, ⟨63, .prod (.int .i64) Y4, y2, 99, none, []⟩), (480, ⟨4, .bool, y3, 99, none, []⟩), (672, ⟨2, .int .i64, y4, 99, none, []⟩), (2277, ⟨110, .int .u64, y5, 99, none, []⟩), (2278, ⟨2, .int .i64, y6, 99, none, []⟩)], [(11, ⟨63, [.int .i64 y7, .int .i64 y8, .int .i64 y9, .int .i64 y10, .int .i64 y11, .own 2277, .own 2278], false, false⟩)], [], []⟩)
abbrev Z78.l13.s : ST := ⟨[(0, .c (.o (.dat 63 Y3))), (5, .c (.o (.own 480))), (6, .c (.o (.own 672))), (9, .c (.o (.own 288))), (10, .c (.o (.int .i64)))], [⟨288, 63, .prod (.int .i64) Y4, 99, .row⟩, ⟨480, 4, .bool, 99, .row⟩, ⟨672, 2, .int .i64, 99, .row⟩], [], [], []⟩
def Z78.l13.u (n : Nat) (v : Z78.l13.s.V) (K : X -> St -> Prop) : Prop := Z78.l13 n v.1.1 v.1.2.2.2.2.1 v.2.1.1 v.2.1.2.1 v.2.1.2.2.1 (fun y0 => K (.exit 4) ⟨[(9, .c (.own 288))], [(288, ⟨63, .prod (.int .i64) Y4, y0, 99, none, []⟩)], [], [], []⟩)
theorem Z78.l8_ok : LT X0 55 8 Z78.l8.s Z78.l8.u :=
 lt hX Tryz.f55 (by kernel_rfl) (fun _ _ h => h) (D29 hX) nL (fun n v K => by kernel_rfl)
theorem Z78.l5_ok : LT X0 55 5 Z78.l5.s Z78.l5.u :=
 lt hX Tryz.f55 (by kernel_rfl) (fun _ _ h => h) (D29 hX) (oL (Z78.l8_ok hX) nL) (fun n v K => by kernel_rfl)
theorem Z78.l18_ok : LT X0 55 18 Z78.l18.s Z78.l18.u :=
 lt hX Tryz.f55 (by kernel_rfl) (fun _ _ h => h) (D29 hX) nL (fun n v K => by kernel_rfl)
theorem Z78.l13_ok : LT X0 55 13 Z78.l13.s Z78.l13.u :=
 lt hX Tryz.f55 (by kernel_rfl) (fun _ _ h => h) (D29 hX) (oL (Z78.l18_ok hX) nL) (fun n v K => by kernel_rfl)
theorem qN9 : CT X0 55 Z78.a Z78.u :=
 ct hX Tryz.f55 (by kernel_rfl) (fun _ _ h => h) (D29 hX) (oL (Z78.l5_ok hX) (oL (Z78.l13_ok hX) nL)) (fun n v K => by kernel_rfl)
def D30 : CS X0 := oC (qN9 hX) (D29 hX)
abbrev Z79.a : List TS := [.a [.o (.int .i64), .o (.dat 110 (.int .u64))], .a [.o (.int .i64), .o (.dat 110 (.int .u64))]]
def Z79.u (n : Nat) (v : VA Z79.a) (K : RES -> Prop) : Prop := Z79.c n v.1.1 v.1.2.1 v.2.1.1 v.2.1.2.1 (fun r0 => K ⟨.c (.bool r0), []⟩)
abbrev Z79.l4.s : ST := ⟨[(2, .c (.o (.pbox 2 0))), (3, .c (.o (.pbox 3 0))), (5, .c (.o (.int .i64)))], [], [⟨2, 59, [.o (.int .i64), .o (.dat 110 (.int .u64))], false, false⟩, ⟨3, 59, [.o (.int .i64), .o (.dat 110 (.int .u64))], false, false⟩], [], []⟩
def Z79.l4.u (n : Nat) (v : Z79.l4.s.V) (K : X -> St -> Prop) : Prop := Z79.l4 n v.2.2.1.1 v.2.2.1.2.1 v.2.2.2.1.1 v.2.2.2.1.2.1 v.1.2.2.1 (K (.exit 0) ⟨[], [], [], [], []⟩) (fun y0 => K .ret ⟨[(4, .c (.bool y0))], [], [], [], []⟩)
theorem Z79.l4_ok : LT X0 106 4 Z79.l4.s Z79.l4.u :=
 lt hX Tryz.f106 (by kernel_rfl) (fun _ _ h => h) (D30 hX) nL (fun n v K => by kernel_rfl)
theorem qN8 : CT X0 106 Z79.a Z79.u :=
 ct hX Tryz.f106 (by kernel_rfl) (fun _ _ h => h) (D30 hX) (oL (Z79.l4_ok hX) nL) (fun n v K => by kernel_rfl)
def D31 : CS X0 := oC (qN8 hX) (D30 hX)
abbrev Z80.a : List TS := [.a [.o (.int .i64), .o (.int .i64), .o (.int .i64), .o (.int .i64), .o (.int .i64), .o (.dat 110 (.int .u64)), .o (.dat 2 (.int .i64))], .a [.o (.int .i64), .o (.int .i64), .o (.int .i64), .o (.int .i64), .o (.int .i64), .o (.dat 110 (.int .u64)), .o (.dat 2 (.int .i64))]]
def Z80.u (n : Nat) (v : VA Z80.a) (K : RES -> Prop) : Prop := Z80.c n v.1.1 v.1.2.1 v.1.2.2.1 v.1.2.2.2.1 v.1.2.2.2.2.1 v.1.2.2.2.2.2.1 v.1.2.2.2.2.2.2.1 v.2.1.1 v.2.1.2.1 v.2.1.2.2.1 v.2.1.2.2.2.1 v.2.1.2.2.2.2.1 v.2.1.2.2.2.2.2.1 v.2.1.2.2.2.2.2.2.1 (fun r0 => K ⟨.c (.bool r0), []⟩)
abbrev Z80.l4.s : ST := ⟨[(2, .c (.o (.pbox 2 0))), (3, .c (.o (.pbox 3 0))), (5, .c (.o (.int .i64)))], [], [⟨2, 63, [.o (.int .i64), .o (.int .i64), .o (.int .i64), .o (.int .i64), .o (.int .i64), .o (.dat 110 (.int .u64)), .o (.dat 2 (.int .i64))], false, false⟩, ⟨3, 63, [.o (.int .i64), .o (.int .i64), .o (.int .i64), .o (.int .i64), .o (.int .i64), .o (.dat 110 (.int .u64)), .o (.dat 2 (.int .i64))], false, false⟩], [], []⟩
def Z80.l4.u (n : Nat) (v : Z80.l4.s.V) (K : X -> St -> Prop) : Prop := Z80.l4 n v.2.2.1.1 v.2.2.1.2.1 v.2.2.1.2.2.1 v.2.2.1.2.2.2.1 v.2.2.1.2.2.2.2.1 v.2.2.1.2.2.2.2.2.1 v.2.2.1.2.2.2.2.2.2.1 v.2.2.2.1.1 v.2.2.2.1.2.1 v.2.2.2.1.2.2.1 v.2.2.2.1.2.2.2.1 v.2.2.2.1.2.2.2.2.1 v.2.2.2.1.2.2.2.2.2.1 v.2.2.2.1.2.2.2.2.2.2.1 v.1.2.2.1 (K (.exit 0) ⟨[], [], [], [], []⟩) (fun y0 => K .ret ⟨[(4, .c (.bool y0))], [], [], [], []⟩)
theorem Z80.l4_ok : LT X0 69 4 Z80.l4.s Z80.l4.u :=
 lt hX Tryz.f69 (by kernel_rfl) (fun _ _ h => h) (D31 hX) nL (fun n v K => by kernel_rfl)
theorem qN7 : CT X0 69 Z80.a Z80.u :=
 ct hX Tryz.f69 (by kernel_rfl) (fun _ _ h => h) (D31 hX) (oL (Z80.l4_ok hX) nL) (fun n v K => by kernel_rfl)
def D32 : CS X0 := oC (qN7 hX) (D31 hX)
abbrev Z81.a : List TS := [.c (.o (.dat 63 Y3))]
def Z81.u (n : Nat) (v : VA Z81.a) (K : RES -> Prop) : Prop := Z81.c n v.1 (fun r0 r1 => K ⟨.tup [.agg [.row ⟨63, .prod (.int .i64) Y4, r0, 99, none, []⟩], .c (.row ⟨2, .int .i64, r1, 99, none, []⟩)], []⟩)
abbrev Z81.l8.s : ST := ⟨[(0, .c (.o (.dat 63 Y3))), (2, .c (.o (.pbox 2 0))), (4, .c (.o (.pbox 4 0))), (5, .c (.o (.own 160))), (6, .c (.o (.int .i64))), (7, .c (.o (.pbox 7 0))), (8, .c (.o (.int .i64)))], [⟨160, 2, .int .i64, 99, .row⟩, ⟨741, 110, .int .u64, 99, .row⟩, ⟨742, 2, .int .i64, 99, .row⟩, ⟨1000064, 63, .prod (.int .i64) Y4, 99, .row⟩, ⟨1000128, 63, .prod (.int .i64) Y4, 99, .row⟩], [⟨2, 30, [.o (.own 1000064)], false, false⟩, ⟨4, 30, [.o (.own 1000128)], false, false⟩, ⟨7, 63, [.o (.int .i64), .o (.int .i64), .o (.int .i64), .o (.int .i64), .o (.int .i64), .o (.own 741), .o (.own 742)], false, false⟩], [], []⟩
def Z81.l8.u (n : Nat) (v : Z81.l8.s.V) (K : X -> St -> Prop) : Prop := Z81.l8 n v.1.1 v.1.2.2.2.2.1 v.2.1.1 v.2.1.2.1 v.2.1.2.2.2.1 v.2.1.2.2.2.2.1 v.2.2.2.2.1.1 v.2.2.2.2.1.2.1 v.2.2.2.2.1.2.2.1 v.2.2.2.2.1.2.2.2.1 v.2.2.2.2.1.2.2.2.2.1 v.1.2.2.2.2.2.2.1 v.2.1.2.2.1 (fun y0 y1 y2 y3 y4 y5 y6 y7 y8 y9 y10 y11 => K (.exit 2) ⟨[(0, .c (.dat 63 Y3 y0)), (2, .c (.pbox 2 0)), (4, .c (.pbox 4 0)), (5, .c (.own 160)), (6, .c (.int .i64 y1)), (7, .c (.pbox 7 0))], [(160, ⟨2, .int .i64, y2, 99, none, []⟩), (741, ⟨110, .int .u64, y3, 99, none, []⟩), (742, ⟨2, .int .i64, y4, 99, none, []⟩), (1000064, ⟨63, .prod (.int .i64) Y4, y5, 99, none, []⟩), (1000128, ⟨63, .prod (.int .i64) Y4, y6, 99, none, []⟩)], [(2, ⟨30, [.own 1000064], false, false⟩), (4, ⟨30, [.own 1000128], false, false⟩), (7, ⟨63, [.int .i64 y7, .int .i64 y8, .int .i64 y9, .int .i64 y10, .int .i64 y11, .own 741, .own 742], false, false⟩)], [], []⟩)
abbrev Z81.l13.s : ST := ⟨[(0, .c (.o (.dat 63 Y3))), (2, .c (.o (.pbox 2 0))), (4, .c (.o (.pbox 4 0))), (5, .c (.o (.own 160))), (6, .c (.o (.int .i64))), (7, .c (.o (.pbox 7 0))), (9, .c (.o (.int .i64))), (10, .c (.o (.int .i64)))], [⟨160, 2, .int .i64, 99, .row⟩, ⟨741, 110, .int .u64, 99, .row⟩, ⟨742, 2, .int .i64, 99, .row⟩, ⟨1000064, 63, .prod (.int .i64) Y4, 99, .row⟩, ⟨1000128, 63, .prod (.int .i64) Y4, 99, .row⟩], [⟨2, 30, [.o (.own 1000064)], false, false⟩, ⟨4, 30, [.o (.own 1000128)], false, false⟩, ⟨7, 63, [.o (.int .i64), .o (.int .i64), .o (.int .i64), .o (.int .i64), .o (.int .i64), .o (.own 741), .o (.own 742)], false, false⟩], [], []⟩
def Z81.l13.u (n : Nat) (v : Z81.l13.s.V) (K : X -> St -> Prop) : Prop := Z81.l13 n v.1.1 v.1.2.2.2.2.1 v.2.1.1 v.2.1.2.1 v.2.1.2.2.1 v.2.1.2.2.2.1 v.2.1.2.2.2.2.1 v.2.2.2.2.1.1 v.2.2.2.2.1.2.1 v.2.2.2.2.1.2.2.1 v.2.2.2.2.1.2.2.2.1 v.2.2.2.2.1.2.2.2.2.1 v.1.2.2.2.2.2.2.1 v.1.2.2.2.2.2.2.2.1 (fun y0 y1 y2 y3 y4 y5 y6 y7 y8 y9 y10 y11 y12 => K (.exit 4) ⟨[(0, .c (.dat 63 Y3 y0)), (2, .c (.pbox 2 0)), (4, .c (.pbox 4 0)), (5, .c (.own 160)), (6, .c (.int .i64 y1)), (7, .c (.pbox 7 0)), (9, .c (.int .i64 y2))], [(160, ⟨2, .int .i64, y3, 99, none, []⟩), (741, ⟨110, .int .u64, y4, 99, none, []⟩), (742, ⟨2, .int .i64, y5, 99, none, []⟩), (1000064, ⟨63, .prod (.int .i64) Y4, y6, 99, none, []⟩), (1000128, ⟨63, .prod (.int .i64) Y4, y7, 99, none, []⟩)], [(2, ⟨30, [.own 1000064], false, false⟩), (4, ⟨30, [.own 1000128], false, false⟩), (7, ⟨63, [.int .i64 y8, .int .i64 y9, .int .i64 y10, .int .i64 y11, .int .i64 y12, .own 741, .own 742], false, false⟩)], [], []⟩)
abbrev Z81.l4.s : ST := ⟨[(0, .c (.o (.dat 63 Y3))), (2, .c (.o (.pbox 2 0))), (4, .c (.o (.pbox 4 0))), (5, .c (.o (.own 160))), (6, .c (.o (.int .i64)))], [⟨160, 2, .int .i64, 99, .row⟩, ⟨1000064, 63, .prod (.int .i64) Y4, 99, .row⟩, ⟨1000128, 63, .prod (.int .i64) Y4, 99, .row⟩], [⟨2, 30, [.o (.own 1000064)], false, false⟩, ⟨4, 30, [.o (.own 1000128)], false, false⟩], [], []⟩
def Z81.l4.u (n : Nat) (v : Z81.l4.s.V) (K : X -> St -> Prop) : Prop := Z81.l4 n v.1.1 v.1.2.2.2.2.1 v.2.1.1 v.2.1.2.1 v.2.1.2.2.1 (fun y0 y1 y2 => K (.exit 0) ⟨[(2, .c (.pbox 2 0)), (4, .c (.pbox 4 0)), (5, .c (.own 160))], [(160, ⟨2, .int .i64, y0, 99, none, []⟩), (1000064, ⟨63, .prod (.int .i64) Y4, y1, 99, none, []⟩), (1000128, ⟨63, .prod (.int .i64) Y4, y2, 99, none, []⟩)], [(2, ⟨30, [.own 1000064], false, false⟩), (4, ⟨30, [.own 1000128], false, false⟩)], [], []⟩)
theorem Z81.l8_ok : LT X0 30 8 Z81.l8.s Z81.l8.u :=
 lt hX Tryz.f30 (by kernel_rfl) (fun _ _ h => h) (D32 hX) nL (fun n v K => by kernel_rfl)
theorem Z81.l13_ok : LT X0 30 13 Z81.l13.s Z81.l13.u :=
 lt hX Tryz.f30 (by kernel_rfl) (fun _ _ h => h) (D32 hX) nL (fun n v K => by kernel_rfl)
theorem Z81.l4_ok : LT X0 30 4 Z81.l4.s Z81.l4.u :=
 lt hX Tryz.f30 (by kernel_rfl) (fun _ _ h => h) (D32 hX) (oL (Z81.l8_ok hX) (oL (Z81.l13_ok hX) nL)) (fun n v K => by kernel_rfl)
theorem qN6 : CT X0 30 Z81.a Z81.u :=
 ct hX Tryz.f30 (by kernel_rfl) (fun _ _ h => h) (D32 hX) (oL (Z81.l4_ok hX) nL) (fun n v K => by kernel_rfl)
def D33 : CS X0 := oC (qN6 hX) (D32 hX)
abbrev Z68.a : List TS := [.c (.o (.dat 65 Y13)), .a [.o (.dat 63 Y3)], .c (.o (.int .i64)), .a [.o (.dat 63 Y3)]]
def Z68.u (n : Nat) (v : VA Z68.a) (K : RES -> Prop) : Prop := Z68.c n v.1 v.2.1.1 v.2.2.1 v.2.2.2.1.1 (fun r0 r1 => K ⟨.tup [.agg [.row ⟨63, .prod (.int .i64) Y4, r0, 99, none, []⟩], .c (.bool r1)], []⟩)
abbrev Z68.l14.s : ST := ⟨[(2, .c (.o (.int .i64))), (5, .c (.o (.pbox 5 0))), (8, .c (.o (.pbox 8 0))), (11, .c (.o (.own 352))), (12, .c (.o (.int .i64))), (13, .c (.o (.own 416))), (14, .c (.o (.int .i64))), (15, .c (.o (.pbox 15 0))), (16, .c (.o (.int .i64)))], [⟨352, 63, .prod (.int .i64) Y4, 1, .row⟩, ⟨416, 2, .int .i64, 99, .row⟩, ⟨2181, 110, .int .u64, 99, .row⟩, ⟨2182, 2, .int .i64, 99, .row⟩, ⟨1000256, 63, .prod (.int .i64) Y4, 99, .row⟩], [⟨5, 30, [.o (.dat 63 Y3)], false, false⟩, ⟨8, 30, [.o (.own 1000256)], false, false⟩, ⟨15, 63, [.o (.int .i64), .o (.int .i64), .o (.int .i64), .o (.int .i64), .o (.int .i64), .o (.own 2181), .o (.own 2182)], false, false⟩], [], []⟩
def Z68.l14.u (n : Nat) (v : Z68.l14.s.V) (K : X -> St -> Prop) : Prop := Z68.l14 n v.1.1 v.1.2.2.2.2.1 v.1.2.2.2.2.2.2.1 v.2.1.1 v.2.1.2.1 v.2.1.2.2.1 v.2.1.2.2.2.2.1 v.2.2.1.1 v.2.2.2.2.1.1 v.2.2.2.2.1.2.1 v.2.2.2.2.1.2.2.1 v.2.2.2.2.1.2.2.2.1 v.2.2.2.2.1.2.2.2.2.1 v.1.2.2.2.2.2.2.2.2.1 v.2.1.2.2.2.1 (fun y0 y1 y2 y3 y4 y5 y6 y7 y8 y9 y10 y11 y12 y13 => K (.exit 2) ⟨[(2, .c (.int .i64 y0)), (5, .c (.pbox 5 0)), (8, .c (.pbox 8 0)), (11, .c (.own 352)), (12, .c (.int .i64 y1)), (13, .c (.own 416)), (14, .c (.int .i64 y2)), (15, .c (.pbox 15 0))], [(352, ⟨63, .prod (.int .i64) Y4, y3, 1, none, []⟩), (416, ⟨2, .int .i64, y4, 99, none, []⟩), (2181, ⟨110, .int .u64, y5, 99, none, []⟩), (2182, ⟨2, .int .i64, y6, 99, none, []⟩), (1000256, ⟨63, .prod (.int .i64) Y4, y7, 99, none, []⟩)], [(5, ⟨30, [.dat 63 Y3 y8], false, false⟩), (8, ⟨30, [.own 1000256], false, false⟩), (15, ⟨63, [.int .i64 y9, .int .i64 y10, .int .i64 y11, .int .i64 y12, .int .i64 y13, .own 2181, .own 2182], false, false⟩)], [], []⟩)
abbrev Z68.l8.s : ST := ⟨[(2, .c (.o (.int .i64))), (5, .c (.o (.pbox 5 0))), (8, .c (.o (.pbox 8 0))), (11, .c (.o (.own 352))), (12, .c (.o (.int .i64))), (13, .c (.o (.own 416))), (14, .c (.o (.int .i64)))], [⟨352, 63, .prod (.int .i64) Y4, 1, .row⟩, ⟨416, 2, .int .i64, 99, .row⟩, ⟨1000256, 63, .prod (.int .i64) Y4, 99, .row⟩], [⟨5, 30, [.o (.dat 63 Y3)], false, false⟩, ⟨8, 30, [.o (.own 1000256)], false, false⟩], [], []⟩
def Z68.l8.u (n : Nat) (v : Z68.l8.s.V) (K : X -> St -> Prop) : Prop := Z68.l8 n v.1.1 v.1.2.2.2.2.1 v.1.2.2.2.2.2.2.1 v.2.1.1 v.2.1.2.1 v.2.1.2.2.1 v.2.2.1.1 (fun y0 y1 y2 => K (.exit 0) ⟨[(8, .c (.pbox 8 0)), (11, .c (.own 352)), (13, .c (.own 416))], [(352, ⟨63, .prod (.int .i64) Y4, y0, 1, none, []⟩), (416, ⟨2, .int .i64, y1, 99, none, []⟩), (1000256, ⟨63, .prod (.int .i64) Y4, y2, 99, none, []⟩)], [(8, ⟨30, [.own 1000256], false, false⟩)], [], []⟩)
theorem Z68.l14_ok : LT X0 26 14 Z68.l14.s Z68.l14.u :=
 lt hX Tryz.f26 (by kernel_rfl) (fun _ _ h => h) (D33 hX) nL (fun n v K => by kernel_rfl)
theorem Z68.l8_ok : LT X0 26 8 Z68.l8.s Z68.l8.u :=
 lt hX Tryz.f26 (by kernel_rfl) (fun _ _ h => h) (D33 hX) (oL (Z68.l14_ok hX) nL) (fun n v K => by kernel_rfl)
theorem qOj : CT X0 26 Z68.a Z68.u :=
 ct hX Tryz.f26 (by kernel_rfl) (fun _ _ h => h) (D33 hX) (oL (Z68.l8_ok hX) nL) (fun n v K => by kernel_rfl)
def D34 : CS X0 := oC (qOj hX) (D33 hX)
abbrev Z16.a : List TS := [.c (.o .str)]
def Z16.u (n : Nat) (v : VA Z16.a) (K : RES -> Prop) : Prop := Z16.c n v.1 (fun r0 => K ⟨.c (.bool r0), []⟩)
abbrev Z16.l4.s : ST := ⟨[(0, .c (.o .str)), (3, .c (.o (.int .i64)))], [], [], [], []⟩
def Z16.l4.u (n : Nat) (v : Z16.l4.s.V) (K : X -> St -> Prop) : Prop := Z16.l4 n v.1.1 v.1.2.1 (K (.exit 0) ⟨[], [], [], [], []⟩) (fun y0 => K .ret ⟨[(2, .c (.bool y0))], [], [], [], []⟩)
theorem Z16.l4_ok : LT X0 91 4 Z16.l4.s Z16.l4.u :=
 lt hX Tryz.f91 (by kernel_rfl) (fun _ _ h => h) (D34 hX) nL (fun n v K => by kernel_rfl)
theorem qPF : CT X0 91 Z16.a Z16.u :=
 ct hX Tryz.f91 (by kernel_rfl) (fun _ _ h => h) (D34 hX) (oL (Z16.l4_ok hX) nL) (fun n v K => by kernel_rfl)
def D35 : CS X0 := oC (qPF hX) (D34 hX)
abbrev Z15.a : List TS := [.c (.o (.int .i64)), .c (.o (.int .i64)), .c (.o (.int .i64))]
def Z15.u (n : Nat) (v : VA Z15.a) (K : RES -> Prop) : Prop := Z15.c n v.1 v.2.1 v.2.2.1 (fun r0 => K ⟨.c (.bool r0), []⟩)
theorem qPG : CT X0 56 Z15.a Z15.u :=
 ct hX Tryz.f56 (by kernel_rfl) (fun _ _ h => h) (D35 hX) nL (fun n v K => by kernel_rfl)
def D36 : CS X0 := oC (qPG hX) (D35 hX)
abbrev Z14.a : List TS := [.a [.o .str, .o (.int .i64)], .c (.o (.pdat 9 .str 0))]
def Z14.u (n : Nat) (v : VA Z14.a) (K : RES -> Prop) : Prop := Z14.c n v.1.1 v.1.2.1 v.2.1 (fun r0 => K ⟨.c (.bool r0), []⟩)
theorem qPH : CT X0 138 Z14.a Z14.u :=
 ct hX Tryz.f138 (by kernel_rfl) (fun _ _ h => h) (D36 hX) nL (fun n v K => by kernel_rfl)
def D37 : CS X0 := oC (qPH hX) (D36 hX)
abbrev Z62.a : List TS := [.c (.o (.dat 65 Y13)), .c (.fn 138 [(false, 1)] 0 [.pdat 9 .str 0])]
def Z62.u (n : Nat) (v : VA Z62.a) (K : RES -> Prop) : Prop := Z62.c n v.1 v.2.1.1 (fun r0 => K ⟨.c (.int .i64 r0), []⟩)
abbrev Z62.l2.s : ST := ⟨[(0, .c (.o (.dat 65 Y13))), (1, .c (.fn 138 [(false, 1)] 0 [.pdat 9 .str 0])), (7, .c (.o (.int .i64))), (8, .c (.o (.int .i64)))], [], [], [], []⟩
def Z62.l2.u (n : Nat) (v : Z62.l2.s.V) (K : X -> St -> Prop) : Prop := Z62.l2 n v.1.1 v.1.2.1.1 v.1.2.2.1 v.1.2.2.2.1 (K (.exit 0) ⟨[], [], [], [], []⟩) (fun y0 => K .ret ⟨[(4, .c (.int .i64 y0))], [], [], [], []⟩)
theorem Z62.l2_ok : LT X0 137 2 Z62.l2.s Z62.l2.u :=
 lt hX Tryz.f137 (by kernel_rfl) (fun _ _ h => h) (D37 hX) nL (fun n v K => by kernel_rfl)
theorem qOq : CT X0 137 Z62.a Z62.u :=
 ct hX Tryz.f137 (by kernel_rfl) (fun _ _ h => h) (D37 hX) (oL (Z62.l2_ok hX) nL) (fun n v K => by kernel_rfl)
def D38 : CS X0 := oC (qOq hX) (D37 hX)
abbrev Z13.a : List TS := [.c (.o (.dat 65 Y13)), .c (.o .str)]
def Z13.u (n : Nat) (v : VA Z13.a) (K : RES -> Prop) : Prop := Z13.c n v.1 v.2.1 (fun r0 => K ⟨.c (.int .i64 r0), []⟩)
theorem qPI : CT X0 92 Z13.a Z13.u :=
 ct hX Tryz.f92 (by kernel_rfl) (fun _ _ h => h) (D38 hX) nL (fun n v K => by kernel_rfl)
def D39 : CS X0 := oC (qPI hX) (D38 hX)
abbrev Z1.a : List TS := [.c (.o (.dat 65 Y13))]
def Z1.u (n : Nat) (v : VA Z1.a) (K : RES -> Prop) : Prop := Z1.c n v.1 (fun r0 => K ⟨.c (.bool r0), []⟩)
abbrev Z1.l5.s : ST := ⟨[(0, .c (.o (.dat 65 Y13))), (3, .c (.o (.int .i64))), (9, .c (.o (.dat 65 Y13))), (10, .c (.o (.int .i64))), (11, .c (.o (.int .i64)))], [], [], [], []⟩
def Z1.l5.u (n : Nat) (v : Z1.l5.s.V) (K : X -> St -> Prop) : Prop := Z1.l5 n v.1.1 v.1.2.2.1 v.1.2.2.2.1 v.1.2.1 v.1.2.2.2.2.1 (fun y0 => K (.exit 0) ⟨[(3, .c (.int .i64 y0))], [], [], [], []⟩) (fun y0 => K .ret ⟨[(2, .c (.bool y0))], [], [], [], []⟩)
theorem Z1.l5_ok : LT X0 50 5 Z1.l5.s Z1.l5.u :=
 lt hX Tryz.f50 (by kernel_rfl) (fun _ _ h => h) (D39 hX) nL (fun n v K => by kernel_rfl)
theorem qQl : CT X0 50 Z1.a Z1.u :=
 ct hX Tryz.f50 (by kernel_rfl) (fun _ _ h => h) (D39 hX) (oL (Z1.l5_ok hX) nL) (fun n v K => by kernel_rfl)
def D40 : CS X0 := oC (qQl hX) (D39 hX)
abbrev Z22.a : List TS := [.c (.o (.int .i64))]
def Z22.u (n : Nat) (v : VA Z22.a) (K : RES -> Prop) : Prop := Z22.c n v.1 (fun r0 => K ⟨.c (.int .i64 r0), []⟩)
theorem qPz : CT X0 159 Z22.a Z22.u :=
 ct hX Tryz.f159 (by kernel_rfl) (fun _ _ h => h) (D40 hX) nL (fun n v K => by kernel_rfl)
def D41 : CS X0 := oC (qPz hX) (D40 hX)
abbrev Z0.a : List TS := [.a [.o (.int .i64), .o (.dat 110 (.int .u64))]]
def Z0.u (n : Nat) (v : VA Z0.a) (K : RES -> Prop) : Prop := Z0.c n v.1.1 v.1.2.1 (fun r0 => K ⟨.c (.bool r0), []⟩)
theorem qQm : CT X0 150 Z0.a Z0.u :=
 ct hX Tryz.f150 (by kernel_rfl) (fun _ _ h => h) (D41 hX) nL (fun n v K => by kernel_rfl)
def D42 : CS X0 := oC (qQm hX) (D41 hX)
abbrev Z5.a : List TS := [.c (.o (.pdat 63 Y3 0)), .c (.o (.dat 65 Y13)), .c (.o (.dat 2 (.int .i64)))]
def Z5.u (n : Nat) (v : VA Z5.a) (K : RES -> Prop) : Prop := Z5.c n v.1 v.2.1 v.2.2.1 (fun r0 => K ⟨.c (.int .i64 r0), []⟩)
abbrev Z5.l11.s : ST := ⟨[(8, .c (.o (.int .i64))), (80, .c (.o (.dat 2 (.int .i64)))), (81, .c (.o (.int .i64))), (82, .c (.o (.int .i64)))], [], [], [], []⟩
def Z5.l11.u (n : Nat) (v : Z5.l11.s.V) (K : X -> St -> Prop) : Prop := Z5.l11 n v.1.2.1 v.1.2.2.1 v.1.1 v.1.2.2.2.1 (fun y0 => K (.exit 1) ⟨[(8, .c (.int .i64 y0))], [], [], [], []⟩)
abbrev Z5.q21.s : ST := ⟨[(0, .c (.o (.pdat 63 Y3 0))), (7, .c (.o (.int .i64))), (137, .c (.o .bool))], [], [], [], []⟩
def Z5.q21.u (n : Nat) (v : Z5.q21.s.V) (K : X -> St -> Prop) : Prop := Z5.q21 n v.1.1 v.1.2.1 v.1.2.2.1 (fun y0 => K .ret ⟨[(6, .c (.int .i64 y0))], [], [], [], []⟩) (K .normal ⟨[], [], [], [], []⟩)
abbrev Z5.q9.s : ST := ⟨[(0, .c (.o (.pdat 63 Y3 0))), (2, .c (.o (.dat 2 (.int .i64)))), (7, .c (.o (.int .i64))), (69, .c (.o .bool))], [], [], [], []⟩
def Z5.q9.u (n : Nat) (v : Z5.q9.s.V) (K : X -> St -> Prop) : Prop := Z5.q9 n v.1.1 v.1.2.1 v.1.2.2.1 v.1.2.2.2.1 (fun y0 => K .ret ⟨[(6, .c (.int .i64 y0))], [], [], [], []⟩) (K .normal ⟨[], [], [], [], []⟩)
abbrev Z5.q5.s : ST := ⟨[(0, .c (.o (.pdat 63 Y3 0))), (1, .c (.o (.dat 65 Y13))), (2, .c (.o (.dat 2 (.int .i64)))), (7, .c (.o (.int .i64))), (17, .c (.o .bool))], [], [], [], []⟩
def Z5.q5.u (n : Nat) (v : Z5.q5.s.V) (K : X -> St -> Prop) : Prop := Z5.q5 n v.1.1 v.1.2.1 v.1.2.2.1 v.1.2.2.2.1 v.1.2.2.2.2.1 (fun y0 => K .ret ⟨[(6, .c (.int .i64 y0))], [], [], [], []⟩) (K .normal ⟨[], [], [], [], []⟩)
theorem Z5.l11_ok : LT X0 143 11 Z5.l11.s Z5.l11.u :=
 lt hX Tryz.f143 (by kernel_rfl) (fun _ _ h => h) (D42 hX) nL (fun n v K => by kernel_rfl)
theorem Z5.q21_ok : LT X0 143 1000021 Z5.q21.s Z5.q21.u :=
 cu hX Tryz.f143 (by kernel_rfl) (fun _ _ h => h) (D42 hX) nL (fun n v K => by kernel_rfl)
theorem Z5.q9_ok : LT X0 143 1000009 Z5.q9.s Z5.q9.u :=
 cu hX Tryz.f143 (by kernel_rfl) (fun _ _ h => h) (D42 hX) (oL (Z5.l11_ok hX) (oL (Z5.q21_ok hX) nL)) (fun n v K => by kernel_rfl)
theorem Z5.q5_ok : LT X0 143 1000005 Z5.q5.s Z5.q5.u :=
 cu hX Tryz.f143 (by kernel_rfl) (fun _ _ h => h) (D42 hX) (oL (Z5.q9_ok hX) nL) (fun n v K => by kernel_rfl)
theorem qQh : CT X0 143 Z5.a Z5.u :=
 ct hX Tryz.f143 (by kernel_rfl) (fun _ _ h => h) (D42 hX) (oL (Z5.q5_ok hX) nL) (fun n v K => by kernel_rfl)
def D43 : CS X0 := oC (qQh hX) (D42 hX)
end
end Go.Vsi
end

section
namespace Go.Vsi
open Go.Proofs
section
variable (hX : CallF.Mono X0)
include hX
abbrev Z4.a : List TS := [.c (.o (.pdat 63 Y3 0))]
def Z4.u (n : Nat) (v : VA Z4.a) (K : RES -> Prop) : Prop := Z4.c n v.1 (fun r0 => K ⟨.c (.bool r0), []⟩)
abbrev Z4.q3.s : ST := ⟨[(0, .c (.o (.pdat 63 Y3 0))), (52, .c (.o .bool))], [], [], [], []⟩
def Z4.q3.u (n : Nat) (v : Z4.q3.s.V) (K : X -> St -> Prop) : Prop := Z4.q3 n v.1.1 v.1.2.1 (fun y0 => K .ret ⟨[(2, .c (.bool y0))], [], [], [], []⟩) (fun y0 => K .normal ⟨[(0, .c (.pdat 63 Y3 y0 0))], [], [], [], []⟩)
abbrev Z4.q2.s : ST := ⟨[(0, .c (.o (.pdat 63 Y3 0))), (3, .c (.o .bool))], [], [], [], []⟩
def Z4.q2.u (n : Nat) (v : Z4.q2.s.V) (K : X -> St -> Prop) : Prop := Z4.q2 n v.1.1 v.1.2.1 (fun y0 => K .ret ⟨[(2, .c (.bool y0))], [], [], [], []⟩)
theorem Z4.q3_ok : LT X0 154 1000003 Z4.q3.s Z4.q3.u :=
 cu hX Tryz.f154 (by kernel_rfl) (fun _ _ h => h) (D43 hX) nL (fun n v K => by kernel_rfl)
theorem Z4.q2_ok : LT X0 154 1000002 Z4.q2.s Z4.q2.u :=
 cu hX Tryz.f154 (by kernel_rfl) (fun _ _ h => h) (D43 hX) (oL (Z4.q3_ok hX) nL) (fun n v K => by kernel_rfl)
theorem qQi : CT X0 154 Z4.a Z4.u :=
 ct hX Tryz.f154 (by kernel_rfl) (fun _ _ h => h) (D43 hX) (oL (Z4.q2_ok hX) nL) (fun n v K => by kernel_rfl)
def D44 : CS X0 := oC (qQi hX) (D43 hX)
abbrev Z63.a : List TS := [.c (.o (.dat 4 .bool)), .c (.o .bool)]
def Z63.u (n : Nat) (v : VA Z63.a) (K : RES -> Prop) : Prop := Z63.c n v.1 v.2.1 (fun r0 => K ⟨.c (.int .i64 r0), []⟩)
abbrev Z63.l2.s : ST := ⟨[(0, .c (.o (.dat 4 .bool))), (1, .c (.o .bool)), (7, .c (.o (.int .i64))), (8, .c (.o (.int .i64)))], [], [], [], []⟩
def Z63.l2.u (n : Nat) (v : Z63.l2.s.V) (K : X -> St -> Prop) : Prop := Z63.l2 n v.1.1 v.1.2.1 v.1.2.2.1 v.1.2.2.2.1 (K (.exit 0) ⟨[], [], [], [], []⟩) (fun y0 => K .ret ⟨[(4, .c (.int .i64 y0))], [], [], [], []⟩)
theorem Z63.l2_ok : LT X0 183 2 Z63.l2.s Z63.l2.u :=
 lt hX Tryz.f183 (by kernel_rfl) (fun _ _ h => h) (D44 hX) nL (fun n v K => by kernel_rfl)
theorem qOo : CT X0 183 Z63.a Z63.u :=
 ct hX Tryz.f183 (by kernel_rfl) (fun _ _ h => h) (D44 hX) (oL (Z63.l2_ok hX) nL) (fun n v K => by kernel_rfl)
def D45 : CS X0 := oC (qOo hX) (D44 hX)
abbrev Z60.a : List TS := [.c (.o (.dat 4 .bool)), .c (.o .bool)]
def Z60.u (n : Nat) (v : VA Z60.a) (K : RES -> Prop) : Prop := Z60.c n v.1 v.2.1 (fun r0 => K ⟨.c (.bool r0), []⟩)
theorem qOt : CT X0 155 Z60.a Z60.u :=
 ct hX Tryz.f155 (by kernel_rfl) (fun _ _ h => h) (D45 hX) nL (fun n v K => by kernel_rfl)
def D46 : CS X0 := oC (qOt hX) (D45 hX)
abbrev Z21.a : List TS := [.c (.o (.dat 65 Y13)), .a [.o (.dat 63 Y3)]]
def Z21.u (n : Nat) (v : VA Z21.a) (K : RES -> Prop) : Prop := Z21.c n v.1 v.2.1.1 (fun r0 r1 => K ⟨.tup [.c (.row ⟨2, .int .i64, r0, 99, none, []⟩), .c (.bool r1)], []⟩)
abbrev Z21.l13.s : ST := ⟨[(0, .c (.o (.dat 65 Y13))), (3, .c (.o (.pbox 3 0))), (6, .c (.o (.int .i64))), (7, .c (.o (.own 768))), (8, .c (.o (.own 832))), (9, .c (.o (.int .i64))), (10, .c (.o (.pdat 63 Y3 0))), (11, .c (.o (.own 1536))), (29, .c (.o (.int .i64))), (30, .c (.o (.int .i64))), (52, .c (.o (.dat 2 (.int .i64)))), (53, .c (.o (.int .i64))), (54, .c (.o (.int .i64)))], [⟨768, 2, .int .i64, 99, .row⟩, ⟨832, 4, .bool, 99, .row⟩, ⟨1536, 2, .int .i64, 99, .row⟩], [⟨3, 30, [.o (.dat 63 Y3)], false, false⟩], [], []⟩
def Z21.l13.u (n : Nat) (v : Z21.l13.s.V) (K : X -> St -> Prop) : Prop := Z21.l13 n v.1.1 v.1.2.2.1 v.1.2.2.2.2.2.1 v.1.2.2.2.2.2.2.1 v.1.2.2.2.2.2.2.2.2.1 v.1.2.2.2.2.2.2.2.2.2.1 v.1.2.2.2.2.2.2.2.2.2.2.1 v.1.2.2.2.2.2.2.2.2.2.2.2.1 v.2.1.1 v.2.2.1.1 v.1.2.2.2.2.2.2.2.2.2.2.2.2.1 v.2.1.2.1 v.2.1.2.2.1 (fun y0 y1 y2 y3 y4 y5 y6 y7 y8 y9 => K (.exit 2) ⟨[(0, .c (.dat 65 Y13 y0)), (3, .c (.pbox 3 0)), (6, .c (.int .i64 y1)), (7, .c (.own 768)), (8, .c (.own 832)), (9, .c (.int .i64 y2)), (10, .c (.pdat 63 Y3 y3 0)), (11, .c (.own 1536)), (29, .c (.int .i64 y4)), (30, .c (.int .i64 y5))], [(768, ⟨2, .int .i64, y6, 99, none, []⟩), (832, ⟨4, .bool, y7, 99, none, []⟩), (1536, ⟨2, .int .i64, y8, 99, none, []⟩)], [(3, ⟨30, [.dat 63 Y3 y9], false, false⟩)], [], []⟩) (fun y0 y1 => K .ret ⟨[(4, .c (.own 128)), (5, .c (.bool y0))], [(128, ⟨2, .int .i64, y1, 99, none, []⟩)], [], [], []⟩)
abbrev Z21.l6.s : ST := ⟨[(0, .c (.o (.dat 65 Y13))), (3, .c (.o (.pbox 3 0))), (6, .c (.o (.int .i64))), (7, .c (.o (.own 768))), (8, .c (.o (.own 832))), (29, .c (.o (.int .i64))), (30, .c (.o (.int .i64)))], [⟨768, 2, .int .i64, 99, .row⟩, ⟨832, 4, .bool, 99, .row⟩], [⟨3, 30, [.o (.dat 63 Y3)], false, false⟩], [], []⟩
def Z21.l6.u (n : Nat) (v : Z21.l6.s.V) (K : X -> St -> Prop) : Prop := Z21.l6 n v.1.1 v.1.2.2.1 v.1.2.2.2.2.2.1 v.1.2.2.2.2.2.2.1 v.2.1.1 v.2.1.2.1 v.2.2.1.1 (fun y0 y1 y2 => K (.exit 0) ⟨[(6, .c (.int .i64 y0)), (7, .c (.own 768)), (8, .c (.own 832))], [(768, ⟨2, .int .i64, y1, 99, none, []⟩), (832, ⟨4, .bool, y2, 99, none, []⟩)], [], [], []⟩) (fun y0 y1 => K .ret ⟨[(4, .c (.own 128)), (5, .c (.bool y0))], [(128, ⟨2, .int .i64, y1, 99, none, []⟩)], [], [], []⟩)
theorem Z21.l13_ok : LT X0 111 13 Z21.l13.s Z21.l13.u :=
 lt hX Tryz.f111 (by kernel_rfl) (fun _ _ h => h) (D46 hX) nL (fun n v K => by kernel_rfl)
theorem Z21.l6_ok : LT X0 111 6 Z21.l6.s Z21.l6.u :=
 lt hX Tryz.f111 (by kernel_rfl) (fun _ _ h => h) (D46 hX) (oL (Z21.l13_ok hX) nL) (fun n v K => by kernel_rfl)
theorem qPA : CT X0 111 Z21.a Z21.u :=
 ct hX Tryz.f111 (by kernel_rfl) (fun _ _ h => h) (D46 hX) (oL (Z21.l6_ok hX) nL) (fun n v K => by kernel_rfl)
def D47 : CS X0 := oC (qPA hX) (D46 hX)
abbrev Z20.a : List TS := [.c (.o (.dat 65 Y13)), .a [.o (.dat 63 Y3)]]
def Z20.u (n : Nat) (v : VA Z20.a) (K : RES -> Prop) : Prop := Z20.c n v.1 v.2.1.1 (fun r0 => K ⟨.c (.int .i64 r0), []⟩)
theorem qPB : CT X0 72 Z20.a Z20.u :=
 ct hX Tryz.f72 (by kernel_rfl) (fun _ _ h => h) (D47 hX) nL (fun n v K => by kernel_rfl)
def D48 : CS X0 := oC (qPB hX) (D47 hX)
abbrev Z6.a : List TS := [.c (.o (.dat 65 Y13)), .a [.o (.dat 63 Y3)]]
def Z6.u (n : Nat) (v : VA Z6.a) (K : RES -> Prop) : Prop := Z6.c n v.1 v.2.1.1 (fun r0 => K ⟨.c (.int .i64 r0), []⟩)
theorem qQg : CT X0 33 Z6.a Z6.u :=
 ct hX Tryz.f33 (by kernel_rfl) (fun _ _ h => h) (D48 hX) nL (fun n v K => by kernel_rfl)
def D49 : CS X0 := oC (qQg hX) (D48 hX)
abbrev Z65.a : List TS := [.c (.o (.row 2 (.int .i64) 99))]
def Z65.u (n : Nat) (v : VA Z65.a) (K : RES -> Prop) : Prop := Z65.c n v.1 (fun r0 => K ⟨.tup [], [[.row ⟨2, .int .i64, r0, 99, none, []⟩]]⟩)
omit hX in
theorem qM6 : CT X0 98 Z65.a Z65.u :=
 qHg (C := C) (X0 := X0) (g := 98) (by kernel_rfl) (B := qH8) qM7 (A := Z65.a) (u := Z65.u) (fun v K h => h) (fun n v K => by kernel_rfl)
set_option linter.unusedSectionVars false in
theorem qOm : CT X0 98 Z65.a Z65.u := qM6
def D50 : CS X0 := oC (qOm hX) (D49 hX)
abbrev Z59.a : List TS := [.c (.o (.row 2 (.int .i64) 99))]
def Z59.u (n : Nat) (v : VA Z59.a) (K : RES -> Prop) : Prop := Z59.c n v.1 (fun r0 => K ⟨.c (.row ⟨2, .int .i64, r0, 99, none, []⟩), []⟩)
abbrev Z59.l9.s : ST := ⟨[(0, .c (.o (.own 0))), (3, .c (.o (.int .i64))), (4, .c (.o (.vw 0))), (5, .c (.o (.int .i64)))], [⟨0, 2, .int .i64, 99, .row⟩], [], [], []⟩
def Z59.l9.u (n : Nat) (v : Z59.l9.s.V) (K : X -> St -> Prop) : Prop := Z59.l9 n v.1.2.2.1.1 v.1.2.2.1.2 v.1.2.1 v.1.2.2.2.1 v.2.1.1 (fun y0 y1 => K (.exit 2) ⟨[(0, .c (.own 0)), (3, .c (.int .i64 y0))], [(0, ⟨2, .int .i64, y1, 99, none, []⟩)], [], [], []⟩)
abbrev Z59.l4.s : ST := ⟨[(0, .c (.o (.own 0))), (3, .c (.o (.int .i64)))], [⟨0, 2, .int .i64, 99, .row⟩], [], [], []⟩
def Z59.l4.u (n : Nat) (v : Z59.l4.s.V) (K : X -> St -> Prop) : Prop := Z59.l4 n v.2.1.1 v.1.2.1 (fun y0 => K (.exit 0) ⟨[(0, .c (.own 0))], [(0, ⟨2, .int .i64, y0, 99, none, []⟩)], [], [], []⟩) (fun y0 y1 y2 => K .ret ⟨[(2, .c (.vw 0 0 y1))], [(0, ⟨2, .int .i64, y2, 99, none, []⟩)], [], [], []⟩)
theorem Z59.l9_ok : LT X0 99 9 Z59.l9.s Z59.l9.u :=
 lt hX Tryz.f99 (by kernel_rfl) (fun _ _ h => h) (D50 hX) nL (fun n v K => by kernel_rfl)
theorem Z59.l4_ok : LT X0 99 4 Z59.l4.s Z59.l4.u :=
 lt hX Tryz.f99 (by kernel_rfl) (fun _ _ h => h) (D50 hX) (oL (Z59.l9_ok hX) nL) (fun n v K => by kernel_rfl)
theorem qOv : CT X0 99 Z59.a Z59.u :=
 ct hX Tryz.f99 (by kernel_rfl) (fun _ _ h => h) (D50 hX) (oL (Z59.l4_ok hX) nL) (fun n v K => by kernel_rfl)
def D51 : CS X0 := oC (qOv hX) (D50 hX)
abbrev Z19.a : List TS := [.a [.o (.dat 63 Y3)]]
def Z19.u (n : Nat) (v : VA Z19.a) (K : RES -> Prop) : Prop := Z19.c n v.1.1 (fun r0 => K ⟨.c (.row ⟨2, .int .i64, r0, 99, none, []⟩), []⟩)
abbrev Z19.l3.s : ST := ⟨[(3, .c (.o (.own 96))), (8, .c (.o (.dat 63 Y3))), (9, .c (.o (.int .i64))), (10, .c (.o (.int .i64)))], [⟨96, 2, .int .i64, 99, .row⟩], [], [], []⟩
def Z19.l3.u (n : Nat) (v : Z19.l3.s.V) (K : X -> St -> Prop) : Prop := Z19.l3 n v.1.2.1 v.1.2.2.1 v.1.2.2.2.1 v.2.1.1 (fun y0 => K (.exit 0) ⟨[(3, .c (.own 96))], [(96, ⟨2, .int .i64, y0, 99, none, []⟩)], [], [], []⟩)
theorem Z19.l3_ok : LT X0 58 3 Z19.l3.s Z19.l3.u :=
 lt hX Tryz.f58 (by kernel_rfl) (fun _ _ h => h) (D51 hX) nL (fun n v K => by kernel_rfl)
theorem qPC : CT X0 58 Z19.a Z19.u :=
 ct hX Tryz.f58 (by kernel_rfl) (fun _ _ h => h) (D51 hX) (oL (Z19.l3_ok hX) nL) (fun n v K => by kernel_rfl)
def D52 : CS X0 := oC (qPC hX) (D51 hX)
abbrev Z64.a : List TS := [.c (.o (.dat 2 (.int .i64))), .c (.o (.int .i64))]
def Z64.u (n : Nat) (v : VA Z64.a) (K : RES -> Prop) : Prop := Z64.c n v.1 v.2.1 (fun r0 => K ⟨.c (.int .i64 r0), []⟩)
abbrev Z64.l2.s : ST := ⟨[(0, .c (.o (.dat 2 (.int .i64)))), (1, .c (.o (.int .i64))), (7, .c (.o (.int .i64))), (8, .c (.o (.int .i64)))], [], [], [], []⟩
def Z64.l2.u (n : Nat) (v : Z64.l2.s.V) (K : X -> St -> Prop) : Prop := Z64.l2 n v.1.1 v.1.2.1 v.1.2.2.1 v.1.2.2.2.1 (K (.exit 0) ⟨[], [], [], [], []⟩) (fun y0 => K .ret ⟨[(4, .c (.int .i64 y0))], [], [], [], []⟩)
theorem Z64.l2_ok : LT X0 97 2 Z64.l2.s Z64.l2.u :=
 lt hX Tryz.f97 (by kernel_rfl) (fun _ _ h => h) (D52 hX) nL (fun n v K => by kernel_rfl)
theorem qOn : CT X0 97 Z64.a Z64.u :=
 ct hX Tryz.f97 (by kernel_rfl) (fun _ _ h => h) (D52 hX) (oL (Z64.l2_ok hX) nL) (fun n v K => by kernel_rfl)
def D53 : CS X0 := oC (qOn hX) (D52 hX)
abbrev Z61.a : List TS := [.c (.o (.dat 2 (.int .i64))), .c (.o (.int .i64))]
def Z61.u (n : Nat) (v : VA Z61.a) (K : RES -> Prop) : Prop := Z61.c n v.1 v.2.1 (fun r0 => K ⟨.c (.bool r0), []⟩)
theorem qOs : CT X0 57 Z61.a Z61.u :=
 ct hX Tryz.f57 (by kernel_rfl) (fun _ _ h => h) (D53 hX) nL (fun n v K => by kernel_rfl)
def D54 : CS X0 := oC (qOs hX) (D53 hX)
abbrev Z17.a : List TS := []
def Z17.u (n : Nat) (v : VA Z17.a) (K : RES -> Prop) : Prop := Z17.c n  (fun r0 r1 => K ⟨.c (.boxr 151 [.row ⟨63, .prod (.int .i64) Y4, r0, 99, none, []⟩, .row ⟨0, .prod .str (.int .i64), [], 99, some (0, zF), r1⟩]), []⟩)
theorem qPE : CT X0 60 Z17.a Z17.u :=
 ct hX Tryz.f60 (by kernel_rfl) (fun _ _ h => h) (D54 hX) nL (fun n v K => by kernel_rfl)
def D55 : CS X0 := oC (qPE hX) (D54 hX)
abbrev Z84.a : List TS := [.c (.o (.int .i64)), .c (.o (.int .i64))]
def Z84.u (n : Nat) (v : VA Z84.a) (K : RES -> Prop) : Prop := Z84.c n v.1 v.2.1 (fun r0 => K ⟨.c (.str r0), []⟩)
omit hX in
theorem qM5 : CT X0 151 Z84.a Z84.u :=
 qHg (C := C) (X0 := X0) (g := 151) (by kernel_rfl) (B := qLM) qPM (A := Z84.a) (u := Z84.u) (fun v K h => h) (fun n v K => by kernel_rfl)
set_option linter.unusedSectionVars false in
theorem qN3 : CT X0 151 Z84.a Z84.u := qM5
def D56 : CS X0 := oC (qN3 hX) (D55 hX)
abbrev Z7.a : List TS := [.a [.o (.int .i64), .o (.dat 110 (.int .u64))]]
def Z7.u (n : Nat) (v : VA Z7.a) (K : RES -> Prop) : Prop := Z7.c n v.1.1 v.1.2.1 (fun r0 => K ⟨.c (.str r0), []⟩)
abbrev Z7.l8.s : ST := ⟨[(1, .c (.o (.pbox 1 0))), (3, .c (.o (.int .i64))), (5, .c (.o (.own 160))), (6, .c (.o (.int .i64)))], [⟨160, 5, .int .u8, 99, .row⟩], [⟨1, 59, [.o (.int .i64), .o (.dat 110 (.int .u64))], false, false⟩], [], []⟩
def Z7.l8.u (n : Nat) (v : Z7.l8.s.V) (K : X -> St -> Prop) : Prop := Z7.l8 n v.1.2.1 v.2.2.1.1 v.2.2.1.2.1 v.1.2.2.2.1 v.2.1.1 (fun y0 => K (.exit 0) ⟨[(5, .c (.own 160))], [(160, ⟨5, .int .u8, y0, 99, none, []⟩)], [], [], []⟩)
theorem Z7.l8_ok : LT X0 152 8 Z7.l8.s Z7.l8.u :=
 lt hX Tryz.f152 (by kernel_rfl) (fun _ _ h => h) (D56 hX) nL (fun n v K => by kernel_rfl)
theorem qQf : CT X0 152 Z7.a Z7.u :=
 ct hX Tryz.f152 (by kernel_rfl) (fun _ _ h => h) (D56 hX) (oL (Z7.l8_ok hX) nL) (fun n v K => by kernel_rfl)
def D57 : CS X0 := oC (qQf hX) (D56 hX)
abbrev Z3.a : List TS := [.c (.o (.pdat 63 Y3 0))]
def Z3.u (n : Nat) (v : VA Z3.a) (K : RES -> Prop) : Prop := Z3.c n v.1 (fun r0 => K ⟨.c (.str r0), []⟩)
abbrev Z3.l3.s : ST := ⟨[(3, .c (.o .str)), (42, .c (.o (.dat 2 (.int .i64)))), (43, .c (.o (.int .i64))), (44, .c (.o (.int .i64)))], [], [], [], []⟩
def Z3.l3.u (n : Nat) (v : Z3.l3.s.V) (K : X -> St -> Prop) : Prop := Z3.l3 n v.1.2.1 v.1.2.2.1 v.1.1 v.1.2.2.2.1 (fun y0 => K (.exit 0) ⟨[(3, .c (.str y0))], [], [], [], []⟩)
theorem Z3.l3_ok : LT X0 109 3 Z3.l3.s Z3.l3.u :=
 lt hX Tryz.f109 (by kernel_rfl) (fun _ _ h => h) (D57 hX) nL (fun n v K => by kernel_rfl)
theorem qQj : CT X0 109 Z3.a Z3.u :=
 ct hX Tryz.f109 (by kernel_rfl) (fun _ _ h => h) (D57 hX) (oL (Z3.l3_ok hX) nL) (fun n v K => by kernel_rfl)
def D58 : CS X0 := oC (qQj hX) (D57 hX)
abbrev Z58.a : List TS := [.c (.o (.dat 110 (.int .u64)))]
def Z58.u (n : Nat) (v : VA Z58.a) (K : RES -> Prop) : Prop := Z58.c n v.1 (fun r0 => K ⟨.c (.row ⟨110, .int .u64, r0, 99, none, []⟩), []⟩)
theorem qOw : CT X0 156 Z58.a Z58.u :=
 ct hX Tryz.f156 (by kernel_rfl) (fun _ _ h => h) (D58 hX) nL (fun n v K => by kernel_rfl)
def D59 : CS X0 := oC (qOw hX) (D58 hX)
abbrev Z11.a : List TS := [.a [.o (.int .i64), .o (.dat 110 (.int .u64))]]
def Z11.u (n : Nat) (v : VA Z11.a) (K : RES -> Prop) : Prop := Z11.c n v.1.1 v.1.2.1 (fun r0 r1 => K ⟨.agg [.int .i64 r0, .row ⟨110, .int .u64, r1, 99, none, []⟩], []⟩)
theorem qPK : CT X0 113 Z11.a Z11.u :=
 ct hX Tryz.f113 (by kernel_rfl) (fun _ _ h => h) (D59 hX) nL (fun n v K => by kernel_rfl)
def D60 : CS X0 := oC (qPK hX) (D59 hX)
abbrev Z57.a : List TS := [.c (.o (.dat 2 (.int .i64)))]
def Z57.u (n : Nat) (v : VA Z57.a) (K : RES -> Prop) : Prop := Z57.c n v.1 (fun r0 => K ⟨.c (.row ⟨2, .int .i64, r0, 99, none, []⟩), []⟩)
theorem qOx : CT X0 153 Z57.a Z57.u :=
 ct hX Tryz.f153 (by kernel_rfl) (fun _ _ h => h) (D60 hX) nL (fun n v K => by kernel_rfl)
def D61 : CS X0 := oC (qOx hX) (D60 hX)
abbrev Z12.a : List TS := [.a [.o (.int .i64), .o (.int .i64), .o (.int .i64), .o (.int .i64), .o (.int .i64), .o (.dat 110 (.int .u64)), .o (.dat 2 (.int .i64))]]
def Z12.u (n : Nat) (v : VA Z12.a) (K : RES -> Prop) : Prop := Z12.c n v.1.1 v.1.2.1 v.1.2.2.1 v.1.2.2.2.1 v.1.2.2.2.2.1 v.1.2.2.2.2.2.1 v.1.2.2.2.2.2.2.1 (fun r0 r1 r2 r3 r4 r5 r6 => K ⟨.agg [.int .i64 r0, .int .i64 r1, .int .i64 r2, .int .i64 r3, .int .i64 r4, .row ⟨110, .int .u64, r5, 99, none, []⟩, .row ⟨2, .int .i64, r6, 99, none, []⟩], []⟩)
theorem qPJ : CT X0 110 Z12.a Z12.u :=
 ct hX Tryz.f110 (by kernel_rfl) (fun _ _ h => h) (D61 hX) nL (fun n v K => by kernel_rfl)
def D62 : CS X0 := oC (qPJ hX) (D61 hX)
abbrev Z8.a : List TS := [.c (.boxr 151 [.row 63 Y3 99, .mrow 0 Y13 99]), .a [.o (.int .i64), .o (.int .i64), .o (.int .i64), .o (.int .i64), .o (.int .i64), .o (.dat 110 (.int .u64)), .o (.dat 2 (.int .i64))]]
def Z8.u (n : Nat) (v : VA Z8.a) (K : RES -> Prop) : Prop := Z8.c n v.1.1 v.1.2.1 v.2.1.1 v.2.1.2.1 v.2.1.2.2.1 v.2.1.2.2.2.1 v.2.1.2.2.2.2.1 v.2.1.2.2.2.2.2.1 v.2.1.2.2.2.2.2.2.1 (fun r0 r1 r2 => K ⟨.c (.int .i64 r0), [[.boxr 151 [.row ⟨63, .prod (.int .i64) Y4, r1, 99, none, []⟩, .row ⟨0, .prod .str (.int .i64), [], 99, some (0, zF), r2⟩]]]⟩)
theorem qQe : CT X0 71 Z8.a Z8.u :=
 ct hX Tryz.f71 (by kernel_rfl) (fun _ _ h => h) (D62 hX) nL (fun n v K => by kernel_rfl)
def D63 : CS X0 := oC (qQe hX) (D62 hX)
abbrev Z9.a : List TS := [.c (.boxr 151 [.row 63 Y3 99, .mrow 0 Y13 99]), .a [.o (.dat 63 Y3)], .c (.o (.int .i64)), .c (.o (.int .i64))]
def Z9.u (n : Nat) (v : VA Z9.a) (K : RES -> Prop) : Prop := Z9.c n v.1.1 v.1.2.1 v.2.1.1 v.2.2.1 v.2.2.2.1 (fun r0 r1 r2 => K ⟨.c (.row ⟨2, .int .i64, r0, 99, none, []⟩), [[.boxr 151 [.row ⟨63, .prod (.int .i64) Y4, r1, 99, none, []⟩, .row ⟨0, .prod .str (.int .i64), [], 99, some (0, zF), r2⟩]]]⟩)
abbrev Z9.l9.s : ST := ⟨[(0, .c (.o (.pbox 0 0))), (2, .c (.o (.int .i64))), (3, .c (.o (.int .i64))), (9, .c (.o (.own 576))), (10, .c (.o (.int .i64))), (11, .c (.o (.pbox 11 0))), (12, .c (.o (.own 1376))), (20, .c (.o (.dat 63 Y3))), (21, .c (.o (.int .i64))), (22, .c (.o (.int .i64))), (45, .c (.o (.dat 2 (.int .i64)))), (46, .c (.o (.int .i64))), (47, .c (.o (.int .i64)))], [⟨576, 2, .int .i64, 99, .row⟩, ⟨1376, 2, .int .i64, 99, .row⟩, ⟨1000000, 63, .prod (.int .i64) Y4, 99, .row⟩, ⟨1000001, 0, .prod .str (.int .i64), 99, .map⟩], [⟨0, 151, [.o (.own 1000000), .o (.own 1000001)], false, false⟩, ⟨11, 63, [.o (.int .i64), .o (.int .i64), .o (.int .i64), .o (.int .i64), .o (.int .i64), .o (.dat 110 (.int .u64)), .o (.dat 2 (.int .i64))], false, false⟩], [], [0]⟩
def Z9.l9.u (n : Nat) (v : Z9.l9.s.V) (K : X -> St -> Prop) : Prop := Z9.l9 n v.1.2.1 v.1.2.2.1 v.1.2.2.2.2.1 v.1.2.2.2.2.2.2.2.1 v.1.2.2.2.2.2.2.2.2.1 v.1.2.2.2.2.2.2.2.2.2.1 v.1.2.2.2.2.2.2.2.2.2.2.1 v.1.2.2.2.2.2.2.2.2.2.2.2.1 v.2.1.1 v.2.1.2.2.1 v.2.1.2.2.2.1 v.2.2.2.1.1 v.2.2.2.1.2.1 v.2.2.2.1.2.2.1 v.2.2.2.1.2.2.2.1 v.2.2.2.1.2.2.2.2.1 v.2.2.2.1.2.2.2.2.2.1 v.2.2.2.1.2.2.2.2.2.2.1 v.1.2.2.2.2.2.2.2.2.2.2.2.2.1 v.2.1.2.1 (fun y0 y1 y2 y3 y4 y5 y6 y7 y8 y9 y10 y11 y12 y13 y14 y15 y16 => K (.exit 2) ⟨[(0, .c (.pbox 0 0)), (2, .c (.int .i64 y0)), (3, .c (.int .i64 y1)), (9, .c (.own 576)), (10, .c (.int .i64 y2)), (11, .c (.pbox 11 0)), (12, .c (.own 1376)), (20, .c (.dat 63 Y3 y3)), (21, .c (.int .i64 y4)), (22, .c (.int .i64 y5))], [(576, ⟨2, .int .i64, y6, 99, none, []⟩), (1376, ⟨2, .int .i64, y7, 99, none, []⟩), (1000000, ⟨63, .prod (.int .i64) Y4, y8, 99, none, []⟩), (1000001, ⟨0, .prod .str (.int .i64), [], 99, some (0, zF), y9⟩)], [(0, ⟨151, [.own 1000000, .own 1000001], false, false⟩), (11, ⟨63, [.int .i64 y10, .int .i64 y11, .int .i64 y12, .int .i64 y13, .int .i64 y14, .dat 110 (.int .u64) y15, .dat 2 (.int .i64) y16], false, false⟩)], [], [0]⟩)
abbrev Z9.l3.s : ST := ⟨[(0, .c (.o (.pbox 0 0))), (2, .c (.o (.int .i64))), (3, .c (.o (.int .i64))), (9, .c (.o (.own 576))), (20, .c (.o (.dat 63 Y3))), (21, .c (.o (.int .i64))), (22, .c (.o (.int .i64)))], [⟨576, 2, .int .i64, 99, .row⟩, ⟨1000000, 63, .prod (.int .i64) Y4, 99, .row⟩, ⟨1000001, 0, .prod .str (.int .i64), 99, .map⟩], [⟨0, 151, [.o (.own 1000000), .o (.own 1000001)], false, false⟩], [], [0]⟩
def Z9.l3.u (n : Nat) (v : Z9.l3.s.V) (K : X -> St -> Prop) : Prop := Z9.l3 n v.1.2.1 v.1.2.2.1 v.1.2.2.2.2.1 v.1.2.2.2.2.2.1 v.1.2.2.2.2.2.2.1 v.2.1.1 v.2.1.2.1 v.2.1.2.2.1 (fun y0 y1 y2 => K (.exit 0) ⟨[(9, .c (.own 576))], [(576, ⟨2, .int .i64, y0, 99, none, []⟩), (1000000, ⟨63, .prod (.int .i64) Y4, y1, 99, none, []⟩), (1000001, ⟨0, .prod .str (.int .i64), [], 99, some (0, zF), y2⟩)], [(0, ⟨151, [.own 1000000, .own 1000001], false, false⟩)], [], [0]⟩)
theorem Z9.l9_ok : LT X0 61 9 Z9.l9.s Z9.l9.u :=
 lt hX Tryz.f61 (by kernel_rfl) (fun _ _ h => h) (D63 hX) nL (fun n v K => by kernel_rfl)
theorem Z9.l3_ok : LT X0 61 3 Z9.l3.s Z9.l3.u :=
 lt hX Tryz.f61 (by kernel_rfl) (fun _ _ h => h) (D63 hX) (oL (Z9.l9_ok hX) nL) (fun n v K => by kernel_rfl)
theorem qQd : CT X0 61 Z9.a Z9.u :=
 ct hX Tryz.f61 (by kernel_rfl) (fun _ _ h => h) (D63 hX) (oL (Z9.l3_ok hX) nL) (fun n v K => by kernel_rfl)
def D64 : CS X0 := oC (qQd hX) (D63 hX)
abbrev Z10.a : List TS := [.c (.boxr 151 [.row 63 Y3 99, .mrow 0 Y13 99]), .c (.o (.int .i64))]
def Z10.u (n : Nat) (v : VA Z10.a) (K : RES -> Prop) : Prop := Z10.c n v.1.1 v.1.2.1 v.2.1 (fun r0 => K ⟨.agg [.row ⟨63, .prod (.int .i64) Y4, r0, 99, none, []⟩], []⟩)
abbrev Z10.l8.s : ST := ⟨[(0, .c (.o (.pbox 0 0))), (4, .c (.o (.pbox 4 0))), (5, .c (.o (.own 640))), (6, .c (.o (.int .i64))), (40, .c (.o (.nref 1000000 6))), (41, .c (.o (.int .i64))), (42, .c (.o (.int .i64)))], [⟨640, 4, .bool, 99, .row⟩, ⟨1000000, 63, .prod (.int .i64) Y4, 99, .row⟩, ⟨1000001, 0, .prod .str (.int .i64), 99, .map⟩, ⟨1000128, 63, .prod (.int .i64) Y4, 99, .row⟩], [⟨0, 151, [.o (.own 1000000), .o (.own 1000001)], false, false⟩, ⟨4, 30, [.o (.own 1000128)], false, false⟩], [], []⟩
def Z10.l8.u (n : Nat) (v : Z10.l8.s.V) (K : X -> St -> Prop) : Prop := Z10.l8 n v.1.2.2.2.1 v.1.2.2.2.2.1 v.1.2.2.2.2.2.1 v.2.1.2.1 v.2.1.2.2.1 v.2.1.2.2.2.1 v.1.2.2.2.2.2.2.1 v.2.1.1 (fun y0 y1 y2 y3 y4 => K (.exit 2) ⟨[(0, .c (.pbox 0 0)), (4, .c (.pbox 4 0)), (5, .c (.own 640)), (6, .c (.int .i64 y0))], [(640, ⟨4, .bool, y1, 99, none, []⟩), (1000000, ⟨63, .prod (.int .i64) Y4, y2, 99, none, []⟩), (1000001, ⟨0, .prod .str (.int .i64), [], 99, some (0, zF), y3⟩), (1000128, ⟨63, .prod (.int .i64) Y4, y4, 99, none, []⟩)], [(0, ⟨151, [.own 1000000, .own 1000001], false, false⟩), (4, ⟨30, [.own 1000128], false, false⟩)], [], []⟩)
abbrev Z10.l4.s : ST := ⟨[(0, .c (.o (.pbox 0 0))), (4, .c (.o (.pbox 4 0))), (5, .c (.o (.own 640))), (6, .c (.o (.int .i64)))], [⟨640, 4, .bool, 99, .row⟩, ⟨1000000, 63, .prod (.int .i64) Y4, 99, .row⟩, ⟨1000001, 0, .prod .str (.int .i64), 99, .map⟩, ⟨1000128, 63, .prod (.int .i64) Y4, 99, .row⟩], [⟨0, 151, [.o (.own 1000000), .o (.own 1000001)], false, false⟩, ⟨4, 30, [.o (.own 1000128)], false, false⟩], [], []⟩
def Z10.l4.u (n : Nat) (v : Z10.l4.s.V) (K : X -> St -> Prop) : Prop := Z10.l4 n v.1.2.2.2.1 v.2.1.1 v.2.1.2.1 v.2.1.2.2.1 v.2.1.2.2.2.1 (fun y0 y1 y2 y3 => K (.exit 0) ⟨[(0, .c (.pbox 0 0)), (4, .c (.pbox 4 0)), (5, .c (.own 640))], [(640, ⟨4, .bool, y0, 99, none, []⟩), (1000000, ⟨63, .prod (.int .i64) Y4, y1, 99, none, []⟩), (1000001, ⟨0, .prod .str (.int .i64), [], 99, some (0, zF), y2⟩), (1000128, ⟨63, .prod (.int .i64) Y4, y3, 99, none, []⟩)], [(0, ⟨151, [.own 1000000, .own 1000001], false, false⟩), (4, ⟨30, [.own 1000128], false, false⟩)], [], []⟩)
abbrev Z10.l20.s : ST := ⟨[(4, .c (.o (.pbox 4 0))), (5, .c (.o (.own 640))), (9, .c (.o (.own 1760))), (10, .c (.o (.pbox 10 0))), (12, .c (.o (.pbox 12 0))), (60, .c (.o (.own 1000000))), (61, .c (.o (.int .i64))), (62, .c (.o (.int .i64))), (79, .c (.o (.own 2118))), (80, .c (.o (.int .i64))), (81, .c (.o (.int .i64)))], [⟨640, 4, .bool, 99, .row⟩, ⟨1760, 2, .int .i64, 99, .row⟩, ⟨2117, 110, .int .u64, 98, .row⟩, ⟨2118, 2, .int .i64, 98, .row⟩, ⟨1000000, 63, .prod (.int .i64) Y4, 99, .fz⟩, ⟨1000128, 63, .prod (.int .i64) Y4, 99, .row⟩, ⟨1000320, 63, .prod (.int .i64) Y4, 99, .row⟩], [⟨4, 30, [.o (.own 1000128)], false, false⟩, ⟨10, 30, [.o (.own 1000320)], false, false⟩, ⟨12, 63, [.o (.int .i64), .o (.int .i64), .o (.int .i64), .o (.int .i64), .o (.int .i64), .o (.own 2117), .o (.own 2118)], false, false⟩], [], []⟩
def Z10.l20.u (n : Nat) (v : Z10.l20.s.V) (K : X -> St -> Prop) : Prop := Z10.l20 n v.1.2.2.2.2.2.2.1 v.1.2.2.2.2.2.2.2.1 v.1.2.2.2.2.2.2.2.2.2.1 v.2.1.1 v.2.1.2.1 v.2.1.2.2.1 v.2.1.2.2.2.2.1.2 v.2.1.2.2.2.2.1.1 v.2.1.2.2.2.2.2.1 v.2.1.2.2.2.2.2.2.1 v.2.2.2.2.1.1 v.2.2.2.2.1.2.1 v.2.2.2.2.1.2.2.1 v.2.2.2.2.1.2.2.2.1 v.2.2.2.2.1.2.2.2.2.1 v.1.2.2.2.2.2.2.2.2.2.2.1 v.2.1.2.2.2.1 (fun y0 y1 y2 y3 y4 y5 y6 y7 y8 y9 y10 y11 y12 y13 y14 => K (.exit 6) ⟨[(4, .c (.pbox 4 0)), (5, .c (.own 640)), (9, .c (.own 1760)), (10, .c (.pbox 10 0)), (12, .c (.pbox 12 0)), (60, .c (.own 1000000)), (61, .c (.int .i64 y0)), (62, .c (.int .i64 y1))], [(640, ⟨4, .bool, y2, 99, none, []⟩), (1760, ⟨2, .int .i64, y3, 99, none, []⟩), (2117, ⟨110, .int .u64, y4, 98, none, []⟩), (2118, ⟨2, .int .i64, y5, 98, none, []⟩), (1000000, ⟨63, .prod (.int .i64) Y4, y6, 99, some (y7, 1000000008), []⟩), (1000128, ⟨63, .prod (.int .i64) Y4, y8, 99, none, []⟩), (1000320, ⟨63, .prod (.int .i64) Y4, y9, 99, none, []⟩)], [(4, ⟨30, [.own 1000128], false, false⟩), (10, ⟨30, [.own 1000320], false, false⟩), (12, ⟨63, [.int .i64 y10, .int .i64 y11, .int .i64 y12, .int .i64 y13, .int .i64 y14, .own 2117, .own 2118], false, false⟩)], [], []⟩)
abbrev Z10.l15.s : ST := ⟨[(4, .c (.o (.pbox 4 0))), (5, .c (.o (.own 640))), (9, .c (.o (.own 1760))), (10, .c (.o (.pbox 10 0))), (60, .c (.o (.own 1000000))), (61, .c (.o (.int .i64))), (62, .c (.o (.int .i64)))], [⟨640, 4, .bool, 99, .row⟩, ⟨1760, 2, .int .i64, 99, .row⟩, ⟨1000000, 63, .prod (.int .i64) Y4, 99, .fz⟩, ⟨1000128, 63, .prod (.int .i64) Y4, 99, .row⟩, ⟨1000320, 63, .prod (.int .i64) Y4, 99, .row⟩], [⟨4, 30, [.o (.own 1000128)], false, false⟩, ⟨10, 30, [.o (.own 1000320)], false, false⟩], [], []⟩
def Z10.l15.u (n : Nat) (v : Z10.l15.s.V) (K : X -> St -> Prop) : Prop := Z10.l15 n v.1.2.2.2.2.2.1 v.1.2.2.2.2.2.2.1 v.2.1.1 v.2.1.2.1 v.2.1.2.2.1.2 v.2.1.2.2.1.1 v.2.1.2.2.2.1 v.2.1.2.2.2.2.1 (fun y0 y1 => K (.exit 4) ⟨[(4, .c (.pbox 4 0)), (10, .c (.pbox 10 0))], [(1000128, ⟨63, .prod (.int .i64) Y4, y0, 99, none, []⟩), (1000320, ⟨63, .prod (.int .i64) Y4, y1, 99, none, []⟩)], [(4, ⟨30, [.own 1000128], false, false⟩), (10, ⟨30, [.own 1000320], false, false⟩)], [], []⟩)
theorem Z10.l8_ok : LT X0 62 8 Z10.l8.s Z10.l8.u :=
 lt hX Tryz.f62 (by kernel_rfl) (fun _ _ h => h) (D64 hX) nL (fun n v K => by kernel_rfl)
theorem Z10.l4_ok : LT X0 62 4 Z10.l4.s Z10.l4.u :=
 lt hX Tryz.f62 (by kernel_rfl) (fun _ _ h => h) (D64 hX) (oL (Z10.l8_ok hX) nL) (fun n v K => by kernel_rfl)
theorem Z10.l20_ok : LT X0 62 20 Z10.l20.s Z10.l20.u :=
 lt hX Tryz.f62 (by kernel_rfl) (fun _ _ h => h) (D64 hX) nL (fun n v K => by kernel_rfl)
theorem Z10.l15_ok : LT X0 62 15 Z10.l15.s Z10.l15.u :=
 lt hX Tryz.f62 (by kernel_rfl) (fun _ _ h => h) (D64 hX) (oL (Z10.l20_ok hX) nL) (fun n v K => by kernel_rfl)
theorem qPL : CT X0 62 Z10.a Z10.u :=
 ct hX Tryz.f62 (by kernel_rfl) (fun _ _ h => h) (D64 hX) (oL (Z10.l4_ok hX) (oL (Z10.l15_ok hX) nL)) (fun n v K => by kernel_rfl)
def D65 : CS X0 := oC (qPL hX) (D64 hX)
abbrev Z18.a : List TS := [.a [.o (.dat 63 Y3)]]
def Z18.u (n : Nat) (v : VA Z18.a) (K : RES -> Prop) : Prop := Z18.c n v.1.1 (fun r0 => K ⟨.agg [.row ⟨63, .prod (.int .i64) Y4, r0, 99, none, []⟩], []⟩)
theorem qPD : CT X0 59 Z18.a Z18.u :=
 ct hX Tryz.f59 (by kernel_rfl) (fun _ _ h => h) (D65 hX) nL (fun n v K => by kernel_rfl)
def D66 : CS X0 := oC (qPD hX) (D65 hX)
abbrev Z2.a : List TS := [.c (.o (.dat 65 Y13)), .a [.o (.dat 63 Y3)], .c (.o (.int .i64)), .a [.o (.dat 63 Y3)]]
def Z2.u (n : Nat) (v : VA Z2.a) (K : RES -> Prop) : Prop := Z2.c n v.1 v.2.1.1 v.2.2.1 v.2.2.2.1.1 (fun r0 r1 => K ⟨.tup [.agg [.row ⟨63, .prod (.int .i64) Y4, r0, 99, none, []⟩], .c (.bool r1)], []⟩)
theorem qQk : CT X0 27 Z2.a Z2.u :=
 ct hX Tryz.f27 (by kernel_rfl) (fun _ _ h => h) (D66 hX) nL (fun n v K => by kernel_rfl)
def D67 : CS X0 := oC (qQk hX) (D66 hX)
abbrev Z30.a : List TS := [.c (.o (.dat 110 (.int .u64))), .c (.o (.dat 110 (.int .u64)))]
def Z30.u (n : Nat) (v : VA Z30.a) (K : RES -> Prop) : Prop := Z30.c n v.1 v.2.1 (fun r0 => K ⟨.c (.bool r0), []⟩)
abbrev Z30.l4.s : ST := ⟨[(0, .c (.o (.dat 110 (.int .u64)))), (1, .c (.o (.dat 110 (.int .u64)))), (5, .c (.o (.int .i64)))], [], [], [], []⟩
def Z30.l4.u (n : Nat) (v : Z30.l4.s.V) (K : X -> St -> Prop) : Prop := Z30.l4 n v.1.1 v.1.2.1 v.1.2.2.1 (K (.exit 0) ⟨[], [], [], [], []⟩) (fun y0 => K .ret ⟨[(4, .c (.bool y0))], [], [], [], []⟩)
theorem Z30.l4_ok : LT X0 162 4 Z30.l4.s Z30.l4.u :=
 lt hX Tryz.f162 (by kernel_rfl) (fun _ _ h => h) (D67 hX) nL (fun n v K => by kernel_rfl)
theorem qPk : CT X0 162 Z30.a Z30.u :=
 ct hX Tryz.f162 (by kernel_rfl) (fun _ _ h => h) (D67 hX) (oL (Z30.l4_ok hX) nL) (fun n v K => by kernel_rfl)
def D68 : CS X0 := oC (qPk hX) (D67 hX)
abbrev Z23.a : List TS := [.a [.o (.int .i64), .o (.dat 110 (.int .u64))], .a [.o (.int .i64), .o (.dat 110 (.int .u64))]]
def Z23.u (n : Nat) (v : VA Z23.a) (K : RES -> Prop) : Prop := Z23.c n v.1.1 v.1.2.1 v.2.1.1 v.2.1.2.1 (fun r0 => K ⟨.c (.bool r0), []⟩)
theorem qPx : CT X0 125 Z23.a Z23.u :=
 ct hX Tryz.f125 (by kernel_rfl) (fun _ _ h => h) (D68 hX) nL (fun n v K => by kernel_rfl)
def D69 : CS X0 := oC (qPx hX) (D68 hX)
abbrev Z26.a : List TS := [.c (.o (.dat 2 (.int .i64))), .c (.o (.dat 2 (.int .i64)))]
def Z26.u (n : Nat) (v : VA Z26.a) (K : RES -> Prop) : Prop := Z26.c n v.1 v.2.1 (fun r0 => K ⟨.c (.bool r0), []⟩)
abbrev Z26.l4.s : ST := ⟨[(0, .c (.o (.dat 2 (.int .i64)))), (1, .c (.o (.dat 2 (.int .i64)))), (5, .c (.o (.int .i64)))], [], [], [], []⟩
def Z26.l4.u (n : Nat) (v : Z26.l4.s.V) (K : X -> St -> Prop) : Prop := Z26.l4 n v.1.1 v.1.2.1 v.1.2.2.1 (K (.exit 0) ⟨[], [], [], [], []⟩) (fun y0 => K .ret ⟨[(4, .c (.bool y0))], [], [], [], []⟩)
theorem Z26.l4_ok : LT X0 126 4 Z26.l4.s Z26.l4.u :=
 lt hX Tryz.f126 (by kernel_rfl) (fun _ _ h => h) (D69 hX) nL (fun n v K => by kernel_rfl)
theorem qPr : CT X0 126 Z26.a Z26.u :=
 ct hX Tryz.f126 (by kernel_rfl) (fun _ _ h => h) (D69 hX) (oL (Z26.l4_ok hX) nL) (fun n v K => by kernel_rfl)
def D70 : CS X0 := oC (qPr hX) (D69 hX)
abbrev Z27.a : List TS := [.a [.o (.int .i64), .o (.int .i64), .o (.int .i64), .o (.int .i64), .o (.int .i64), .o (.dat 110 (.int .u64)), .o (.dat 2 (.int .i64))], .a [.o (.int .i64), .o (.int .i64), .o (.int .i64), .o (.int .i64), .o (.int .i64), .o (.dat 110 (.int .u64)), .o (.dat 2 (.int .i64))]]
def Z27.u (n : Nat) (v : VA Z27.a) (K : RES -> Prop) : Prop := Z27.c n v.1.1 v.1.2.1 v.1.2.2.1 v.1.2.2.2.1 v.1.2.2.2.2.1 v.1.2.2.2.2.2.1 v.1.2.2.2.2.2.2.1 v.2.1.1 v.2.1.2.1 v.2.1.2.2.1 v.2.1.2.2.2.1 v.2.1.2.2.2.2.1 v.2.1.2.2.2.2.2.1 v.2.1.2.2.2.2.2.2.1 (fun r0 => K ⟨.c (.bool r0), []⟩)
theorem qPp : CT X0 79 Z27.a Z27.u :=
 ct hX Tryz.f79 (by kernel_rfl) (fun _ _ h => h) (D70 hX) nL (fun n v K => by kernel_rfl)
def D71 : CS X0 := oC (qPp hX) (D70 hX)
abbrev Z28.a : List TS := [.c (.o (.dat 63 Y3)), .c (.o (.dat 63 Y3))]
def Z28.u (n : Nat) (v : VA Z28.a) (K : RES -> Prop) : Prop := Z28.c n v.1 v.2.1 (fun r0 => K ⟨.c (.bool r0), []⟩)
abbrev Z28.l4.s : ST := ⟨[(0, .c (.o (.dat 63 Y3))), (1, .c (.o (.dat 63 Y3))), (5, .c (.o (.int .i64)))], [], [], [], []⟩
def Z28.l4.u (n : Nat) (v : Z28.l4.s.V) (K : X -> St -> Prop) : Prop := Z28.l4 n v.1.1 v.1.2.1 v.1.2.2.1 (K (.exit 0) ⟨[], [], [], [], []⟩) (fun y0 => K .ret ⟨[(4, .c (.bool y0))], [], [], [], []⟩)
theorem Z28.l4_ok : LT X0 41 4 Z28.l4.s Z28.l4.u :=
 lt hX Tryz.f41 (by kernel_rfl) (fun _ _ h => h) (D71 hX) nL (fun n v K => by kernel_rfl)
theorem qPn : CT X0 41 Z28.a Z28.u :=
 ct hX Tryz.f41 (by kernel_rfl) (fun _ _ h => h) (D71 hX) (oL (Z28.l4_ok hX) nL) (fun n v K => by kernel_rfl)
def D72 : CS X0 := oC (qPn hX) (D71 hX)
abbrev Z29.a : List TS := [.a [.o (.dat 63 Y3)], .a [.o (.dat 63 Y3)]]
def Z29.u (n : Nat) (v : VA Z29.a) (K : RES -> Prop) : Prop := Z29.c n v.1.1 v.2.1.1 (fun r0 => K ⟨.c (.bool r0), []⟩)
theorem qPm : CT X0 19 Z29.a Z29.u :=
 ct hX Tryz.f19 (by kernel_rfl) (fun _ _ h => h) (D72 hX) nL (fun n v K => by kernel_rfl)
def D73 : CS X0 := oC (qPm hX) (D72 hX)
abbrev Z24.a : List TS := [.a [.o .str, .o (.int .i64)], .a [.o .str, .o (.int .i64)]]
def Z24.u (n : Nat) (v : VA Z24.a) (K : RES -> Prop) : Prop := Z24.c n v.1.1 v.1.2.1 v.2.1.1 v.2.1.2.1 (fun r0 => K ⟨.c (.bool r0), []⟩)
theorem qPv : CT X0 42 Z24.a Z24.u :=
 ct hX Tryz.f42 (by kernel_rfl) (fun _ _ h => h) (D73 hX) nL (fun n v K => by kernel_rfl)
def D74 : CS X0 := oC (qPv hX) (D73 hX)
abbrev Z25.a : List TS := [.c (.o (.dat 65 Y13)), .c (.o (.dat 65 Y13))]
def Z25.u (n : Nat) (v : VA Z25.a) (K : RES -> Prop) : Prop := Z25.c n v.1 v.2.1 (fun r0 => K ⟨.c (.bool r0), []⟩)
abbrev Z25.l4.s : ST := ⟨[(0, .c (.o (.dat 65 Y13))), (1, .c (.o (.dat 65 Y13))), (5, .c (.o (.int .i64)))], [], [], [], []⟩
def Z25.l4.u (n : Nat) (v : Z25.l4.s.V) (K : X -> St -> Prop) : Prop := Z25.l4 n v.1.1 v.1.2.1 v.1.2.2.1 (K (.exit 0) ⟨[], [], [], [], []⟩) (fun y0 => K .ret ⟨[(4, .c (.bool y0))], [], [], [], []⟩)
theorem Z25.l4_ok : LT X0 20 4 Z25.l4.s Z25.l4.u :=
 lt hX Tryz.f20 (by kernel_rfl) (fun _ _ h => h) (D74 hX) nL (fun n v K => by kernel_rfl)
theorem qPt : CT X0 20 Z25.a Z25.u :=
 ct hX Tryz.f20 (by kernel_rfl) (fun _ _ h => h) (D74 hX) (oL (Z25.l4_ok hX) nL) (fun n v K => by kernel_rfl)
def D75 : CS X0 := oC (qPt hX) (D74 hX)
abbrev Z39.a : List TS := [.c (.o (.int .i64))]
def Z39.u (n : Nat) (v : VA Z39.a) (K : RES -> Prop) : Prop := Z39.c n v.1 (fun r0 => K ⟨.c (.str r0), []⟩)
abbrev Z39.l4.s : ST := ⟨[(0, .c (.o (.int .i64))), (3, .c (.o .str))], [], [], [], []⟩
def Z39.l4.u (n : Nat) (v : Z39.l4.s.V) (K : X -> St -> Prop) : Prop := Z39.l4 n v.1.1 v.1.2.1 (fun y0 => K (.exit 0) ⟨[(3, .c (.str y0))], [], [], [], []⟩)
theorem Z39.l4_ok : LT X0 43 4 Z39.l4.s Z39.l4.u :=
 lt hX Tryz.f43 (by kernel_rfl) (fun _ _ h => h) (D75 hX) nL (fun n v K => by kernel_rfl)
theorem qO4 : CT X0 43 Z39.a Z39.u :=
 ct hX Tryz.f43 (by kernel_rfl) (fun _ _ h => h) (D75 hX) (oL (Z39.l4_ok hX) nL) (fun n v K => by kernel_rfl)
def D76 : CS X0 := oC (qO4 hX) (D75 hX)
abbrev Z35.a : List TS := [.c (.o (.row 65 Y13 99)), .c (.o (.int .i64))]
def Z35.u (n : Nat) (v : VA Z35.a) (K : RES -> Prop) : Prop := Z35.c n v.1 v.2.1 (fun r0 r1 => K ⟨.c (.int .i64 r0), [[.row ⟨65, .prod .str (.int .i64), r1, 99, none, []⟩]]⟩)
abbrev Z35.l2.s : ST := ⟨[(0, .c (.o (.own 0))), (1, .c (.o (.int .i64))), (5, .c (.o (.int .i64)))], [⟨0, 65, .prod .str (.int .i64), 99, .row⟩], [], [0], []⟩
def Z35.l2.u (n : Nat) (v : Z35.l2.s.V) (K : X -> St -> Prop) : Prop := Z35.l2 n v.1.2.1 v.1.2.2.1 v.2.1.1 (fun y0 y1 => K (.exit 0) ⟨[(1, .c (.int .i64 y0))], [(0, ⟨65, .prod .str (.int .i64), y1, 99, none, []⟩)], [], [0], []⟩)
theorem Z35.l2_ok : LT X0 21 2 Z35.l2.s Z35.l2.u :=
 lt hX Tryz.f21 (by kernel_rfl) (fun _ _ h => h) (D76 hX) nL (fun n v K => by kernel_rfl)
theorem qPa : CT X0 21 Z35.a Z35.u :=
 ct hX Tryz.f21 (by kernel_rfl) (fun _ _ h => h) (D76 hX) (oL (Z35.l2_ok hX) nL) (fun n v K => by kernel_rfl)
def D77 : CS X0 := oC (qPa hX) (D76 hX)
abbrev Z40.a : List TS := [.c (.o (.row 110 (.int .u64) 98)), .c (.o (.int .i64))]
def Z40.u (n : Nat) (v : VA Z40.a) (K : RES -> Prop) : Prop := Z40.c n v.1 v.2.1 (fun r0 r1 => K ⟨.c (.int .i64 r0), [[.row ⟨110, .int .u64, r1, 98, none, []⟩]]⟩)
abbrev Z40.l2.s : ST := ⟨[(0, .c (.o (.own 0))), (1, .c (.o (.int .i64))), (5, .c (.o (.int .i64)))], [⟨0, 110, .int .u64, 98, .row⟩], [], [0], []⟩
def Z40.l2.u (n : Nat) (v : Z40.l2.s.V) (K : X -> St -> Prop) : Prop := Z40.l2 n v.1.2.1 v.1.2.2.1 v.2.1.1 (fun y0 y1 => K (.exit 0) ⟨[(1, .c (.int .i64 y0))], [(0, ⟨110, .int .u64, y1, 98, none, []⟩)], [], [0], []⟩)
theorem Z40.l2_ok : LT X0 80 2 Z40.l2.s Z40.l2.u :=
 lt hX Tryz.f80 (by kernel_rfl) (fun _ _ h => h) (D77 hX) nL (fun n v K => by kernel_rfl)
theorem qO2 : CT X0 80 Z40.a Z40.u :=
 ct hX Tryz.f80 (by kernel_rfl) (fun _ _ h => h) (D77 hX) (oL (Z40.l2_ok hX) nL) (fun n v K => by kernel_rfl)
def D78 : CS X0 := oC (qO2 hX) (D77 hX)
abbrev Z36.a : List TS := [.c (.o (.row 2 (.int .i64) 98)), .c (.o (.int .i64))]
def Z36.u (n : Nat) (v : VA Z36.a) (K : RES -> Prop) : Prop := Z36.c n v.1 v.2.1 (fun r0 r1 => K ⟨.c (.int .i64 r0), [[.row ⟨2, .int .i64, r1, 98, none, []⟩]]⟩)
abbrev Z36.l2.s : ST := ⟨[(0, .c (.o (.own 0))), (1, .c (.o (.int .i64))), (5, .c (.o (.int .i64)))], [⟨0, 2, .int .i64, 98, .row⟩], [], [0], []⟩
def Z36.l2.u (n : Nat) (v : Z36.l2.s.V) (K : X -> St -> Prop) : Prop := Z36.l2 n v.1.2.1 v.1.2.2.1 v.2.1.1 (fun y0 y1 => K (.exit 0) ⟨[(1, .c (.int .i64 y0))], [(0, ⟨2, .int .i64, y1, 98, none, []⟩)], [], [0], []⟩)
theorem Z36.l2_ok : LT X0 81 2 Z36.l2.s Z36.l2.u :=
 lt hX Tryz.f81 (by kernel_rfl) (fun _ _ h => h) (D78 hX) nL (fun n v K => by kernel_rfl)
theorem qO8 : CT X0 81 Z36.a Z36.u :=
 ct hX Tryz.f81 (by kernel_rfl) (fun _ _ h => h) (D78 hX) (oL (Z36.l2_ok hX) nL) (fun n v K => by kernel_rfl)
def D79 : CS X0 := oC (qO8 hX) (D78 hX)
abbrev Z37.a : List TS := [.c (.o (.row 63 Y3 99)), .c (.o (.int .i64))]
def Z37.u (n : Nat) (v : VA Z37.a) (K : RES -> Prop) : Prop := Z37.c n v.1 v.2.1 (fun r0 r1 => K ⟨.c (.int .i64 r0), [[.row ⟨63, .prod (.int .i64) Y4, r1, 99, none, []⟩]]⟩)
abbrev Z37.l2.s : ST := ⟨[(0, .c (.o (.own 0))), (1, .c (.o (.int .i64))), (5, .c (.o (.int .i64)))], [⟨0, 63, .prod (.int .i64) Y4, 99, .row⟩], [], [0], []⟩
def Z37.l2.u (n : Nat) (v : Z37.l2.s.V) (K : X -> St -> Prop) : Prop := Z37.l2 n v.1.2.1 v.1.2.2.1 v.2.1.1 (fun y0 y1 => K (.exit 0) ⟨[(1, .c (.int .i64 y0))], [(0, ⟨63, .prod (.int .i64) Y4, y1, 99, none, []⟩)], [], [0], []⟩)
theorem Z37.l2_ok : LT X0 44 2 Z37.l2.s Z37.l2.u :=
 lt hX Tryz.f44 (by kernel_rfl) (fun _ _ h => h) (D79 hX) nL (fun n v K => by kernel_rfl)
theorem qO6 : CT X0 44 Z37.a Z37.u :=
 ct hX Tryz.f44 (by kernel_rfl) (fun _ _ h => h) (D79 hX) (oL (Z37.l2_ok hX) nL) (fun n v K => by kernel_rfl)
def D80 : CS X0 := oC (qO6 hX) (D79 hX)
abbrev Z38.a : List TS := [.a [.o (.row 63 Y3 99)], .c (.o (.int .i64))]
def Z38.u (n : Nat) (v : VA Z38.a) (K : RES -> Prop) : Prop := Z38.c n v.1.1 v.2.1 (fun r0 r1 => K ⟨.c (.int .i64 r0), [[.row ⟨63, .prod (.int .i64) Y4, r1, 99, none, []⟩]]⟩)
theorem qO5 : CT X0 22 Z38.a Z38.u :=
 ct hX Tryz.f22 (by kernel_rfl) (fun _ _ h => h) (D80 hX) nL (fun n v K => by kernel_rfl)
def D81 : CS X0 := oC (qO5 hX) (D80 hX)
abbrev Z34.a : List TS := [.c (.o (.dat 110 (.int .u64))), .c (.o (.int .i64))]
def Z34.u (n : Nat) (v : VA Z34.a) (K : RES -> Prop) : Prop := Z34.c n v.1 v.2.1 (fun r0 => K ⟨.c (.int .i64 r0), []⟩)
abbrev Z34.l2.s : ST := ⟨[(0, .c (.o (.dat 110 (.int .u64)))), (1, .c (.o (.int .i64))), (5, .c (.o (.int .i64)))], [], [], [], []⟩
def Z34.l2.u (n : Nat) (v : Z34.l2.s.V) (K : X -> St -> Prop) : Prop := Z34.l2 n v.1.1 v.1.2.1 v.1.2.2.1 (fun y0 => K (.exit 0) ⟨[(1, .c (.int .i64 y0))], [], [], [], []⟩) (fun y0 => K .ret ⟨[(4, .c (.int .i64 y0))], [], [], [], []⟩)
theorem Z34.l2_ok : LT X0 82 2 Z34.l2.s Z34.l2.u :=
 lt hX Tryz.f82 (by kernel_rfl) (fun _ _ h => h) (D81 hX) nL (fun n v K => by kernel_rfl)
theorem qPc : CT X0 82 Z34.a Z34.u :=
 ct hX Tryz.f82 (by kernel_rfl) (fun _ _ h => h) (D81 hX) (oL (Z34.l2_ok hX) nL) (fun n v K => by kernel_rfl)
def D82 : CS X0 := oC (qPc hX) (D81 hX)
abbrev Z31.a : List TS := [.c (.o (.dat 2 (.int .i64))), .c (.o (.int .i64))]
def Z31.u (n : Nat) (v : VA Z31.a) (K : RES -> Prop) : Prop := Z31.c n v.1 v.2.1 (fun r0 => K ⟨.c (.int .i64 r0), []⟩)
abbrev Z31.l2.s : ST := ⟨[(0, .c (.o (.dat 2 (.int .i64)))), (1, .c (.o (.int .i64))), (5, .c (.o (.int .i64)))], [], [], [], []⟩
def Z31.l2.u (n : Nat) (v : Z31.l2.s.V) (K : X -> St -> Prop) : Prop := Z31.l2 n v.1.1 v.1.2.1 v.1.2.2.1 (fun y0 => K (.exit 0) ⟨[(1, .c (.int .i64 y0))], [], [], [], []⟩) (fun y0 => K .ret ⟨[(4, .c (.int .i64 y0))], [], [], [], []⟩)
theorem Z31.l2_ok : LT X0 83 2 Z31.l2.s Z31.l2.u :=
 lt hX Tryz.f83 (by kernel_rfl) (fun _ _ h => h) (D82 hX) nL (fun n v K => by kernel_rfl)
theorem qPi : CT X0 83 Z31.a Z31.u :=
 ct hX Tryz.f83 (by kernel_rfl) (fun _ _ h => h) (D82 hX) (oL (Z31.l2_ok hX) nL) (fun n v K => by kernel_rfl)
def D83 : CS X0 := oC (qPi hX) (D82 hX)
abbrev Z32.a : List TS := [.c (.o (.dat 63 Y3)), .c (.o (.int .i64))]
def Z32.u (n : Nat) (v : VA Z32.a) (K : RES -> Prop) : Prop := Z32.c n v.1 v.2.1 (fun r0 => K ⟨.c (.int .i64 r0), []⟩)
abbrev Z32.l2.s : ST := ⟨[(0, .c (.o (.dat 63 Y3))), (1, .c (.o (.int .i64))), (5, .c (.o (.int .i64)))], [], [], [], []⟩
def Z32.l2.u (n : Nat) (v : Z32.l2.s.V) (K : X -> St -> Prop) : Prop := Z32.l2 n v.1.1 v.1.2.1 v.1.2.2.1 (fun y0 => K (.exit 0) ⟨[(1, .c (.int .i64 y0))], [], [], [], []⟩) (fun y0 => K .ret ⟨[(4, .c (.int .i64 y0))], [], [], [], []⟩)
theorem Z32.l2_ok : LT X0 45 2 Z32.l2.s Z32.l2.u :=
 lt hX Tryz.f45 (by kernel_rfl) (fun _ _ h => h) (D83 hX) nL (fun n v K => by kernel_rfl)
theorem qPg : CT X0 45 Z32.a Z32.u :=
 ct hX Tryz.f45 (by kernel_rfl) (fun _ _ h => h) (D83 hX) (oL (Z32.l2_ok hX) nL) (fun n v K => by kernel_rfl)
def D84 : CS X0 := oC (qPg hX) (D83 hX)
abbrev Z33.a : List TS := [.a [.o (.dat 63 Y3)], .c (.o (.int .i64))]
def Z33.u (n : Nat) (v : VA Z33.a) (K : RES -> Prop) : Prop := Z33.c n v.1.1 v.2.1 (fun r0 => K ⟨.c (.int .i64 r0), []⟩)
theorem qPe : CT X0 23 Z33.a Z33.u :=
 ct hX Tryz.f23 (by kernel_rfl) (fun _ _ h => h) (D84 hX) nL (fun n v K => by kernel_rfl)
def D85 : CS X0 := oC (qPe hX) (D84 hX)
abbrev laws_FnExactReplace.a : List TS := [.c (.o (.dat 72 Y13)), .a [.o (.dat 114 Y3)], .c (.o (.int .i64)), .a [.o (.dat 114 Y3)]]
def laws_FnExactReplace.u (n : Nat) (v : VA laws_FnExactReplace.a) (K : RES -> Prop) : Prop := laws_FnExactReplace.c n v.1 v.2.1.1 v.2.2.1 v.2.2.2.1.1 (fun r0 => K ⟨.c (.bool r0), []⟩)
abbrev laws_FnExactReplace.q39.s : ST := ⟨[(10, .c (.o (.pbox 10 0))), (11, .c (.o .bool)), (15, .c (.o (.pbox 15 0))), (18, .c (.o (.int .i64))), (20, .c (.o (.pbox 20 0))), (21, .c (.o .bool))], [⟨1440, 63, .prod (.int .i64) Y4, 99, .row⟩, ⟨1888, 63, .prod (.int .i64) Y4, 99, .row⟩, ⟨4064, 63, .prod (.int .i64) Y4, 99, .row⟩], [⟨10, 30, [.o (.own 1440)], false, false⟩, ⟨15, 30, [.o (.own 1888)], false, false⟩, ⟨20, 30, [.o (.own 4064)], false, false⟩], [], []⟩
def laws_FnExactReplace.q39.u (n : Nat) (v : laws_FnExactReplace.q39.s.V) (K : X -> St -> Prop) : Prop := laws_FnExactReplace.q39 n v.1.2.1 v.1.2.2.2.1 v.1.2.2.2.2.2.1 v.2.1.1 v.2.1.2.1 v.2.1.2.2.1 (fun y0 => K .ret ⟨[(8, .c (.bool y0))], [], [], [], []⟩)
abbrev laws_FnExactReplace.q12.s : ST := ⟨[(0, .c (.o (.dat 72 Y13))), (2, .c (.o (.int .i64))), (5, .c (.o (.pbox 5 0))), (7, .c (.o (.pbox 7 0))), (10, .c (.o (.pbox 10 0))), (11, .c (.o .bool))], [⟨1440, 63, .prod (.int .i64) Y4, 99, .row⟩], [⟨5, 39, [.o (.dat 114 Y3)], false, false⟩, ⟨7, 39, [.o (.dat 114 Y3)], false, false⟩, ⟨10, 30, [.o (.own 1440)], false, false⟩], [], []⟩
def laws_FnExactReplace.q12.u (n : Nat) (v : laws_FnExactReplace.q12.s.V) (K : X -> St -> Prop) : Prop := laws_FnExactReplace.q12 n v.1.1 v.1.2.1 v.1.2.2.2.2.2.1 v.2.1.1 v.2.2.1.1 v.2.2.2.1.1 (fun y0 => K .ret ⟨[(8, .c (.bool y0))], [], [], [], []⟩)
theorem laws_FnExactReplace.q39_ok : LT X0 6 1000039 laws_FnExactReplace.q39.s laws_FnExactReplace.q39.u :=
 cu hX Tryz.f6 (by kernel_rfl) (fun _ _ h => h) (D85 hX) nL (fun n v K => by kernel_rfl)
theorem laws_FnExactReplace.q12_ok : LT X0 6 1000012 laws_FnExactReplace.q12.s laws_FnExactReplace.q12.u :=
 cu hX Tryz.f6 (by kernel_rfl) (fun _ _ h => h) (D85 hX) (oL (laws_FnExactReplace.q39_ok hX) nL) (fun n v K => by kernel_rfl)
theorem laws_FnExactReplace_ok : CT X0 6 laws_FnExactReplace.a laws_FnExactReplace.u :=
 ct hX Tryz.f6 (by kernel_rfl) (fun _ _ h => h) (D85 hX) (oL (laws_FnExactReplace.q12_ok hX) nL) (fun n v K => by kernel_rfl)
def D86 : CS X0 := oC (laws_FnExactReplace_ok hX) (D85 hX)
end
end Go.Vsi
end
