/- Each told function is what the machine comes to. No statement is proved here. -/
import Derived.Test.YtaeadfaldglniaaGreatM4
import Derived.Test.YtaeadfaldglniaaGreatA1
import Derived.Shelf.SortM.Plain
import Derived.Shelf.SortM.SortNone
import Derived.Test.YtaeadfaldglniaaGreatProg
import Derived.KernelRfl
set_option linter.unusedVariables false
set_option linter.unusedSimpArgs false

section
namespace Go.Vsi
abbrev Y8 : Ty := .prod .str (.int .i64)
abbrev Y7 : Ty := .prod (.int .i64) (.sl 98 (.int .u64))
abbrev Y6 : Ty := .prod (.int .i64) (.prod (.int .i64) (.prod .bool (.int .u8)))
abbrev Y5 : Ty := .prod (.int .i64) (.prod (.int .i64) (.prod (.int .i64) (.prod (.int .i64) (.prod (.sl 98 (.int .u64)) (.sl 2 (.int .i64))))))
abbrev Y4 : Ty := .prod (.int .i64) Y5
abbrev Y3 : Ty := .prod .bool (.prod (.sl 88 Y4) (.sl 88 Y4))
abbrev Y2 : Ty := .prod (.int .i64) Y3
abbrev Y1 : Ty := .prod (.int .i64) (.prod .bool (.prod (.sl 102 Y4) (.sl 102 Y4)))
open Go.Proofs
def tu : TI := ⟨false, 1, 8, [.undef], none, none, [], [], none⟩
def tis : List (Nat × TI) := [
(1, tu),
(2, ⟨false, 1, 8, [.int .i64 0], some (.int .i64), none, [], [], none⟩),
(3, ⟨false, 1, 8, [.int .i64 0], some (.int .i64), none, [], [], none⟩),
(4, ⟨false, 1, 1, [.bool false], some (.bool), none, [], [], none⟩),
(5, ⟨false, 1, 1, [.int .u8 0], some (.int .u8), none, [], [], none⟩),
(6, ⟨false, 1, 1, [.int .u8 0], some (.int .u8), none, [], [], none⟩),
(7, ⟨true, 4, 24, [.int .i64 0, .int .i64 0, .bool false, .int .u8 0], some Y6, none, [(0, 2), (1, 3), (2, 4), (3, 6)], [], none⟩),
(8, ⟨true, 4, 24, [.int .i64 0, .int .i64 0, .bool false, .int .u8 0], some Y6, none, [(0, 2), (1, 3), (2, 4), (3, 6)], [], none⟩),
(9, ⟨false, 1, 16, [.str []], some (.str), none, [], [], none⟩),
(10, ⟨false, 1, 16, [.str []], some (.str), none, [], [], none⟩),
(11, ⟨false, 1, 16, [.str []], some (.str), none, [], [], none⟩),
(12, ⟨false, 1, 8, [.int .u64 0], some (.int .u64), none, [], [], none⟩),
(13, ⟨true, 2, 24, [.str [], .int .u64 0], some (.prod .str (.int .u64)), none, [(0, 9), (1, 12)], [], none⟩),
(14, ⟨true, 2, 24, [.str [], .int .u64 0], some (.prod .str (.int .u64)), none, [(0, 9), (1, 12)], [], none⟩),
(15, tu),
(16, tu),
(17, tu),
(18, ⟨true, 1, 8, [.undef], none, none, [(0, 17)], [], none⟩),
(19, ⟨true, 1, 8, [.undef], none, none, [(0, 17)], [], none⟩),
(20, ⟨false, 1, 16, [.undef], none, none, [], [], none⟩),
(21, ⟨false, 1, 4, [.int .i32 0], some (.int .i32), none, [], [], none⟩),
(22, ⟨false, 1, 24, [.emp 42 Y8], some (.sl 42 Y8), some 42, [], [], none⟩),
(23, ⟨false, 1, 24, [.emp 48 Y1], some (.sl 48 Y1), some 48, [], [], none⟩),
(24, tu),
(25, tu),
(26, ⟨false, 1, 24, [.emp 50 (.sl 2 (.int .i64))], some (.sl 50 (.sl 2 (.int .i64))), some 50, [], [], none⟩),
(28, tu),
(29, ⟨false, 1, 24, [.emp 59 Y8], some (.sl 59 Y8), some 59, [], [], none⟩),
(30, tu),
(31, ⟨false, 1, 24, [.emp 56 Y2], some (.sl 56 Y2), some 56, [], [], none⟩),
(32, tu),
(33, tu),
(34, tu),
(35, tu),
(36, tu),
(37, tu),
(38, tu),
(39, tu),
(40, tu),
(41, ⟨true, 2, 24, [.str [], .int .i64 0], some Y8, none, [(0, 9), (1, 2)], [], none⟩),
(42, ⟨true, 2, 24, [.str [], .int .i64 0], some Y8, none, [(0, 9), (1, 2)], [.str, .int .i64], none⟩),
(43, tu),
(44, ⟨false, 1, 24, [.emp 102 Y4], some (.sl 102 Y4), some 102, [], [], none⟩),
(45, ⟨true, 1, 24, [.emp 102 Y4], some (.sl 102 Y4), none, [(0, 44)], [], none⟩),
(46, ⟨true, 1, 24, [.emp 102 Y4], some (.sl 102 Y4), none, [(0, 44)], [], none⟩),
(47, ⟨true, 4, 64, [.int .i64 0, .bool false, .emp 102 Y4, .emp 102 Y4], some Y1, none, [(0, 2), (1, 4), (2, 46), (3, 46)], [], none⟩),
(48, ⟨true, 4, 64, [.int .i64 0, .bool false, .emp 102 Y4, .emp 102 Y4], some Y1, none, [(0, 2), (1, 4), (2, 46), (3, 46)], [], none⟩),
(49, tu),
(50, ⟨false, 1, 24, [.emp 2 (.int .i64)], some (.sl 2 (.int .i64)), some 2, [], [], none⟩),
(51, tu),
(52, ⟨false, 1, 24, [.emp 88 Y4], some (.sl 88 Y4), some 88, [], [], none⟩),
(53, ⟨true, 1, 24, [.emp 88 Y4], some (.sl 88 Y4), none, [(0, 52)], [], none⟩),
(54, ⟨true, 1, 24, [.emp 88 Y4], some (.sl 88 Y4), none, [(0, 52)], [], none⟩),
(55, ⟨true, 4, 64, [.int .i64 0, .bool false, .emp 88 Y4, .emp 88 Y4], some Y2, none, [(0, 2), (1, 4), (2, 54), (3, 54)], [], none⟩),
(56, ⟨true, 4, 64, [.int .i64 0, .bool false, .emp 88 Y4, .emp 88 Y4], some Y2, none, [(0, 2), (1, 4), (2, 54), (3, 54)], [], none⟩),
(57, tu),
(58, tu),
(59, ⟨true, 2, 24, [.str [], .int .i64 0], some Y8, none, [(0, 9), (1, 2)], [.str, .int .i64], none⟩),
(60, tu),
(61, tu),
(62, ⟨false, 1, 24, [.emp 31 (.sl 56 Y2)], some (.sl 31 (.sl 56 Y2)), some 31, [], [], none⟩),
(63, tu),
(64, tu),
(65, tu),
(66, tu),
(67, tu),
(68, tu),
(69, tu),
(70, tu),
(71, tu),
(72, tu),
(73, tu),
(74, tu),
(75, tu),
(76, tu),
(77, tu),
(78, ⟨false, 1, 24, [.emp 3 (.int .i64)], some (.sl 3 (.int .i64)), some 3, [], [], none⟩),
(79, tu),
(80, ⟨false, 1, 8, [.undef], none, none, [], [], some (3, 3)⟩),
(82, tu),
(83, ⟨false, 1, 24, [.emp 5 (.int .u8)], some (.sl 5 (.int .u8)), some 5, [], [], none⟩),
(84, ⟨false, 1, 24, [.emp 98 (.int .u64)], some (.sl 98 (.int .u64)), some 98, [], [], none⟩),
(85, ⟨true, 2, 32, [.int .i64 0, .emp 98 (.int .u64)], some Y7, none, [(0, 2), (1, 84)], [], none⟩),
(86, ⟨true, 2, 32, [.int .i64 0, .emp 98 (.int .u64)], some Y7, none, [(0, 2), (1, 84)], [], none⟩),
(87, ⟨true, 7, 88, [.int .i64 0, .int .i64 0, .int .i64 0, .int .i64 0, .int .i64 0, .emp 98 (.int .u64), .emp 2 (.int .i64)], some Y4, none, [(0, 2), (1, 2), (2, 2), (3, 2), (4, 86), (6, 50)], [], none⟩),
(88, ⟨true, 7, 88, [.int .i64 0, .int .i64 0, .int .i64 0, .int .i64 0, .int .i64 0, .emp 98 (.int .u64), .emp 2 (.int .i64)], some Y4, none, [(0, 2), (1, 2), (2, 2), (3, 2), (4, 86), (6, 50)], [], none⟩),
(89, tu),
(90, tu),
(91, tu),
(92, tu),
(93, tu),
(94, tu),
(95, tu),
(96, tu),
(97, tu),
(98, ⟨false, 1, 8, [.int .u64 0], some (.int .u64), none, [], [], none⟩),
(99, tu),
(100, ⟨true, 2, 32, [.int .i64 0, .emp 98 (.int .u64)], some Y7, none, [(0, 2), (1, 84)], [], none⟩),
(101, ⟨true, 7, 88, [.int .i64 0, .int .i64 0, .int .i64 0, .int .i64 0, .int .i64 0, .emp 98 (.int .u64), .emp 2 (.int .i64)], some Y4, none, [(0, 2), (1, 2), (2, 2), (3, 2), (4, 100), (6, 50)], [], none⟩),
(102, ⟨true, 7, 88, [.int .i64 0, .int .i64 0, .int .i64 0, .int .i64 0, .int .i64 0, .emp 98 (.int .u64), .emp 2 (.int .i64)], some Y4, none, [(0, 2), (1, 2), (2, 2), (3, 2), (4, 100), (6, 50)], [], none⟩),
(103, tu),
(104, ⟨false, 1, 24, [.emp 4 .bool], some (.sl 4 .bool), some 4, [], [], none⟩),
(105, tu),
(106, tu),
(107, tu),
(108, tu),
(109, tu),
(111, tu),
(112, tu),
(113, tu),
(114, tu),
(115, ⟨false, 1, 8, [.int .u64 0], some (.int .u64), none, [], [], none⟩),
(116, tu),
(117, tu),
(118, tu),
(119, tu),
(120, tu),
(121, tu),
(122, tu),
(123, tu),
(124, tu),
(125, tu),
(126, ⟨false, 1, 8, [.int .i64 0], some (.int .i64), none, [], [], none⟩),
(128, tu),
(129, tu),
(130, tu),
(131, tu),
(132, tu),
(133, tu),
(134, ⟨false, 1, 4, [.int .u32 0], some (.int .u32), none, [], [], none⟩),
(135, tu),
(136, tu),
(137, tu),
(138, tu),
(139, tu),
(140, ⟨false, 1, 8, [.int .u64 0], some (.int .u64), none, [], [], none⟩),
(141, tu),
(142, tu),
(143, tu),
(144, tu),
(145, tu),
(146, tu),
(147, tu),
(148, tu),
(150, tu),
(151, tu),
(152, ⟨true, 4, 40, [.undef, .undef, .undef, .undef], none, none, [(0, 17), (1, 17), (2, 17), (3, 9)], [], none⟩),
(153, ⟨true, 4, 40, [.undef, .undef, .undef, .undef], none, none, [(0, 17), (1, 17), (2, 17), (3, 9)], [], none⟩),
(154, ⟨true, 0, 0, [], none, none, [], [], none⟩),
(155, ⟨true, 0, 0, [], none, none, [(0, 154)], [], none⟩),
(156, ⟨true, 0, 0, [], none, none, [(0, 154)], [], none⟩),
(157, tu),
(158, ⟨false, 1, 1, [.int .u8 0], some (.int .u8), none, [], [], none⟩),
(159, ⟨false, 1, 1, [.int .u8 0], some (.int .u8), none, [], [], none⟩),
(160, tu),
(161, tu),
(162, ⟨false, 1, 4, [.int .i32 0], some (.int .i32), none, [], [], none⟩),
(163, ⟨false, 1, 4, [.int .i32 0], some (.int .i32), none, [], [], none⟩),
(164, ⟨true, 11, 48, [.undef, .undef, .undef, .undef, .undef, .undef, .undef, .undef, .undef, .undef, .undef], none, none, [(0, 12), (1, 12), (2, 134), (3, 158), (4, 5), (5, 5), (6, 159), (7, 160), (8, 161), (9, 162), (10, 163)], [], none⟩),
(165, ⟨true, 11, 48, [.undef, .undef, .undef, .undef, .undef, .undef, .undef, .undef, .undef, .undef, .undef], none, none, [(0, 12), (1, 12), (2, 134), (3, 158), (4, 5), (5, 5), (6, 159), (7, 160), (8, 161), (9, 162), (10, 163)], [], none⟩),
(166, tu),
(167, tu)]
noncomputable def fns : List (Nat × Func) := [(3, Tryz.f3), (4, Tryz.f4), (5, Tryz.f5), (6, Tryz.f6), (7, Tryz.f7), (8, Tryz.f8), (9, Tryz.f9), (10, Tryz.f10), (11, Tryz.f11), (12, Tryz.f12), (13, Tryz.f13), (14, Tryz.f14), (15, Tryz.f15), (16, Tryz.f16), (17, Tryz.f17), (18, Tryz.f18), (19, Tryz.f19), (20, Tryz.f20), (21, Tryz.f21), (22, Tryz.f22), (23, Tryz.f23), (24, Tryz.f24), (25, Tryz.f25), (26, Tryz.f26), (27, Tryz.f27), (28, Tryz.f28), (29, Tryz.f29), (30, Tryz.f30), (31, Tryz.f31), (32, Tryz.f32), (33, Tryz.f33), (34, Tryz.f34), (35, Tryz.f35), (36, Tryz.f36), (37, Tryz.f37), (38, Tryz.f38), (39, Tryz.f39), (40, Tryz.f40), (41, Tryz.f41), (42, Tryz.f42), (43, Tryz.f43), (44, Tryz.f44), (45, Tryz.f45), (46, Tryz.f46), (47, Tryz.f47), (48, Tryz.f48), (49, Tryz.f49), (50, Tryz.f50), (51, Tryz.f51), (52, Tryz.f52), (53, Tryz.f53), (54, Tryz.f54), (55, Tryz.f55), (56, Tryz.f56), (57, Tryz.f57), (59, Tryz.f59), (60, Tryz.f60), (61, Tryz.f61), (62, Tryz.f62), (63, Tryz.f63), (64, Tryz.f64), (65, Tryz.f65), (66, Tryz.f66), (67, Tryz.f67), (68, Tryz.f68), (72, Tryz.f72), (73, Tryz.f73), (74, Tryz.f74), (75, Tryz.f75), (76, Tryz.f76), (77, Tryz.f77), (78, Tryz.f78), (79, Tryz.f79), (80, Tryz.f80), (81, Tryz.f81), (82, Tryz.f82), (94, Tryz.f94), (95, Tryz.f95), (96, Tryz.f96), (97, Tryz.f97), (98, Tryz.f98), (99, Tryz.f99), (106, Tryz.f106), (107, Tryz.f107)]
def fis : List (Nat × Fi) := [
(3, ⟨[], [], [(1000014, ⟨⟨[0, 1, 6, 7, 8, 9, 10, 11], []⟩, [(1000000, ⟨[4], []⟩)], ⟨[4], []⟩⟩), (1000022, ⟨⟨[0, 1, 6, 7, 10, 82], []⟩, [(1000000, ⟨[0, 1, 6, 7, 10], []⟩)], ⟨[4], []⟩⟩)]⟩),
(4, ⟨[], [], [(5, ⟨⟨[0, 1, 5], []⟩, [(0, ⟨[1], []⟩)], ⟨[4], []⟩⟩)]⟩),
(5, ⟨[], [], [(5, ⟨⟨[0, 1, 5], []⟩, [(0, ⟨[1], []⟩)], ⟨[4], []⟩⟩)]⟩),
(6, ⟨[], [], [(7, ⟨⟨[0, 1, 6, 7, 8, 9], [(7, 0, .own 99), (8, 0, .own 99)]⟩, [(0, ⟨[1, 6, 7, 8], []⟩)], ⟨[4, 5], []⟩⟩), (12, ⟨⟨[1, 6, 7, 8, 10], []⟩, [(2, ⟨[1, 6, 7], []⟩)], ⟨[4, 5], []⟩⟩), (15, ⟨⟨[1, 6, 7, 8, 10, 11], []⟩, [(4, ⟨[1, 6, 7, 8, 10], []⟩)], ⟨[4, 5], []⟩⟩), (20, ⟨⟨[1, 6, 7, 12], [(6, 0, .own 99)]⟩, [(6, ⟨[6], []⟩)], ⟨[4, 5], []⟩⟩), (24, ⟨⟨[1, 6, 7, 12, 13, 14], [(13, 0, .own 99)]⟩, [(8, ⟨[1, 6, 7, 12, 13], []⟩)], ⟨[4, 5], []⟩⟩)]⟩),
(7, ⟨[], [], [(3, ⟨⟨[0, 3, 4], []⟩, [(0, ⟨[3], []⟩)], ⟨[2], []⟩⟩)]⟩),
(8, ⟨[], [], [(3, ⟨⟨[0, 3, 4], []⟩, [(0, ⟨[3], []⟩)], ⟨[2], []⟩⟩)]⟩),
(9, ⟨[], [], [(5, ⟨⟨[6, 16, 17, 18], [(6, 0, .own 99)]⟩, [(0, ⟨[6], []⟩)], ⟨[4, 5], []⟩⟩)]⟩),
(10, ⟨[], [], [(4, ⟨⟨[0, 1, 5], []⟩, [(0, ⟨[], []⟩)], ⟨[4], []⟩⟩)]⟩),
(11, ⟨[], [], [(4, ⟨⟨[0, 1, 5], []⟩, [(0, ⟨[], []⟩)], ⟨[4], []⟩⟩)]⟩),
(12, ⟨[], [], [(4, ⟨⟨[0, 1, 5], []⟩, [(0, ⟨[], []⟩)], ⟨[4], []⟩⟩)]⟩),
(13, ⟨[1], [], [(2, ⟨⟨[0, 1, 5], []⟩, [(0, ⟨[1], []⟩)], ⟨[4], []⟩⟩)]⟩),
(14, ⟨[1], [], [(2, ⟨⟨[0, 1, 5], []⟩, [(0, ⟨[1], []⟩)], ⟨[4], []⟩⟩)]⟩),
(15, ⟨[1], [], [(2, ⟨⟨[0, 1, 5], []⟩, [(0, ⟨[1], []⟩)], ⟨[4], []⟩⟩)]⟩),
(16, ⟨[], [], [(2, ⟨⟨[0, 1, 5], []⟩, [(0, ⟨[1], []⟩)], ⟨[4], []⟩⟩)]⟩),
(19, ⟨[], [], [(4, ⟨⟨[0, 1, 5], []⟩, [(0, ⟨[], []⟩)], ⟨[4], []⟩⟩)]⟩),
(21, ⟨[], [], [(2, ⟨⟨[0, 1, 5], []⟩, [(0, ⟨[], []⟩)], ⟨[4], []⟩⟩)]⟩),
(22, ⟨[1], [], [(3, ⟨⟨[0, 6, 7, 8], []⟩, [(0, ⟨[], []⟩)], ⟨[], []⟩⟩)]⟩),
(26, ⟨[], [some 2], [(3, ⟨⟨[1, 5, 6, 29, 30], []⟩, [(0, ⟨[1, 5, 6], []⟩)], ⟨[4], []⟩⟩), (8, ⟨⟨[1, 5, 6, 37, 38, 39], []⟩, [(2, ⟨[1, 6], []⟩)], ⟨[4], []⟩⟩), (12, ⟨⟨[1, 5, 6, 8, 37, 38, 39, 49, 50, 51], []⟩, [(4, ⟨[1, 5, 6, 37, 38, 39], []⟩)], ⟨[4], []⟩⟩), (19, ⟨⟨[1, 5, 6, 8, 13, 14, 37, 38, 39, 49, 50, 51, 88, 89], []⟩, [(6, ⟨[1, 5, 6, 8, 37, 38, 39, 49, 50, 51], []⟩)], ⟨[4], []⟩⟩), (28, ⟨⟨[6, 16, 17, 107, 108, 109], [(16, 0, .own 2)]⟩, [(8, ⟨[16], []⟩)], ⟨[4], []⟩⟩)]⟩),
(27, ⟨[], [], [(3, ⟨⟨[3, 7, 8, 9], [(3, 0, .own 99)]⟩, [(0, ⟨[3], []⟩)], ⟨[2], []⟩⟩)]⟩),
(28, ⟨[], [], [(4, ⟨⟨[0, 1, 5], []⟩, [(0, ⟨[], []⟩)], ⟨[4], []⟩⟩)]⟩),
(31, ⟨[], [], [(4, ⟨⟨[0, 3], []⟩, [(0, ⟨[3], []⟩)], ⟨[2], []⟩⟩)]⟩),
(32, ⟨[1], [], [(2, ⟨⟨[0, 1, 5], []⟩, [(0, ⟨[1], []⟩)], ⟨[4], []⟩⟩)]⟩),
(33, ⟨[1], [], [(2, ⟨⟨[0, 1, 5], []⟩, [(0, ⟨[1], []⟩)], ⟨[4], []⟩⟩)]⟩),
(34, ⟨[], [], [(2, ⟨⟨[0, 1, 5], []⟩, [(0, ⟨[1], []⟩)], ⟨[4], []⟩⟩)]⟩),
(36, ⟨[], [], [(5, ⟨⟨[0, 3, 4], []⟩, [(0, ⟨[3], []⟩)], ⟨[2], []⟩⟩), (10, ⟨⟨[0, 3, 4, 5], []⟩, [(2, ⟨[0, 3, 4], []⟩)], ⟨[2], []⟩⟩)]⟩),
(39, ⟨[], [], [(3, ⟨⟨[0, 3, 4], [(3, 0, .own 99)]⟩, [(0, ⟨[3], []⟩)], ⟨[2], []⟩⟩), (8, ⟨⟨[0, 3, 4, 5], []⟩, [(2, ⟨[0, 3, 4, 5], []⟩)], ⟨[2], []⟩⟩)]⟩),
(40, ⟨[], [], [(5, ⟨⟨[0, 3, 5, 6], [(5, 0, .own 99)]⟩, [(0, ⟨[5], []⟩)], ⟨[4], []⟩⟩), (8, ⟨⟨[0, 3, 5, 6, 7], []⟩, [(2, ⟨[0, 3, 5, 6], [(5, 0, .own 99)]⟩)], ⟨[4], []⟩⟩)]⟩),
(41, ⟨[], [], [(2, ⟨⟨[0, 1, 5], []⟩, [(0, ⟨[], []⟩)], ⟨[4], []⟩⟩)]⟩),
(43, ⟨[], [], [(5, ⟨⟨[0, 3, 9, 10, 11], []⟩, [(0, ⟨[3], []⟩)], ⟨[2], []⟩⟩)]⟩),
(44, ⟨[], [], [(5, ⟨⟨[0, 5, 12, 13, 14], []⟩, [(0, ⟨[], []⟩)], ⟨[4], []⟩⟩)]⟩),
(47, ⟨[1], [], [(2, ⟨⟨[0, 1, 5], []⟩, [(0, ⟨[1], []⟩)], ⟨[4], []⟩⟩)]⟩),
(48, ⟨[], [], [(5, ⟨⟨[0, 1, 5], []⟩, [(0, ⟨[1], []⟩)], ⟨[4], []⟩⟩)]⟩),
(49, ⟨[], [], [(4, ⟨⟨[0, 3], []⟩, [(0, ⟨[], []⟩)], ⟨[2], []⟩⟩)]⟩),
(50, ⟨[], [], [(7, ⟨⟨[0, 3, 5, 6, 7, 8], [(6, 0, .own 99)]⟩, [(0, ⟨[5, 6, 7], []⟩)], ⟨[4], []⟩⟩), (16, ⟨⟨[0, 3, 5, 6, 7, 8, 10], []⟩, [(2, ⟨[0, 3, 5, 6, 7, 8], []⟩)], ⟨[4], []⟩⟩), (20, ⟨⟨[5, 6, 7, 11], []⟩, [(4, ⟨[6], []⟩)], ⟨[4], []⟩⟩)]⟩),
(51, ⟨[], [], [(3, ⟨⟨[0, 3, 4], []⟩, [(0, ⟨[3], []⟩)], ⟨[2], []⟩⟩)]⟩),
(52, ⟨[], [], [(4, ⟨⟨[0, 3], []⟩, [(0, ⟨[], []⟩)], ⟨[2], []⟩⟩)]⟩),
(56, ⟨[], [], [(3, ⟨⟨[0, 3, 9, 10, 11], []⟩, [(0, ⟨[0, 3], []⟩)], ⟨[2], []⟩⟩), (11, ⟨⟨[6, 25, 26, 27], [(6, 0, .own 99)]⟩, [(2, ⟨[6], []⟩)], ⟨[2], []⟩⟩)]⟩),
(57, ⟨[], [], [(3, ⟨⟨[3, 8, 9, 10], [(3, 0, .own 99)]⟩, [(0, ⟨[3], []⟩)], ⟨[2], []⟩⟩)]⟩),
(58, ⟨[1], [], []⟩),
(59, ⟨[2], [], [(4, ⟨⟨[0, 3], []⟩, [(0, ⟨[0], []⟩)], ⟨[2], []⟩⟩), (9, ⟨⟨[0, 3, 4, 5], []⟩, [(2, ⟨[0, 3], []⟩)], ⟨[2], []⟩⟩)]⟩),
(60, ⟨[], [], [(4, ⟨⟨[0, 1, 5], []⟩, [(0, ⟨[], []⟩)], ⟨[4], []⟩⟩)]⟩),
(63, ⟨[], [], [(2, ⟨⟨[0, 2, 4, 7], []⟩, [(0, ⟨[0, 4], []⟩)], ⟨[6], []⟩⟩), (1000007, ⟨⟨[0, 4, 63], []⟩, [(1000000, ⟨[0, 4], []⟩)], ⟨[6], []⟩⟩), (1000008, ⟨⟨[0, 4], []⟩, [(1000000, ⟨[6], []⟩)], ⟨[6], []⟩⟩)]⟩),
(64, ⟨[], [], [(3, ⟨⟨[0, 2, 4, 7, 8], []⟩, [(0, ⟨[0, 4, 7], []⟩)], ⟨[6], []⟩⟩)]⟩),
(66, ⟨[], [], [(2, ⟨⟨[0, 1, 7, 8], []⟩, [(0, ⟨[], []⟩)], ⟨[4], []⟩⟩)]⟩),
(68, ⟨[], [], [(6, ⟨⟨[0, 3, 6, 7, 8, 29, 30], []⟩, [(0, ⟨[6, 7, 8], []⟩)], ⟨[4, 5], []⟩⟩), (13, ⟨⟨[0, 3, 6, 7, 8, 9, 10, 11, 29, 30, 52, 53, 54], []⟩, [(2, ⟨[0, 3, 6, 7, 8, 9, 10, 11, 29, 30], []⟩)], ⟨[4, 5], []⟩⟩)]⟩),
(69, ⟨[3], [], []⟩),
(77, ⟨[], [], [(4, ⟨⟨[1, 3], []⟩, [(0, ⟨[], []⟩)], ⟨[2], []⟩⟩)]⟩),
(79, ⟨[], [], [(3, ⟨⟨[0, 3, 4], []⟩, [(0, ⟨[3], []⟩)], ⟨[2], []⟩⟩)]⟩),
(80, ⟨[], [], [(11, ⟨⟨[8, 80, 81, 82], []⟩, [(1, ⟨[8], []⟩)], ⟨[6], []⟩⟩), (1000005, ⟨⟨[0, 1, 2, 7, 17], []⟩, [(1000000, ⟨[], []⟩)], ⟨[6], []⟩⟩), (1000009, ⟨⟨[0, 2, 7, 69], []⟩, [(1000000, ⟨[], []⟩)], ⟨[6], []⟩⟩), (1000021, ⟨⟨[0, 7, 137], []⟩, [(1000000, ⟨[], []⟩)], ⟨[6], []⟩⟩)]⟩),
(81, ⟨[], [], [(1000002, ⟨⟨[0, 3], []⟩, [(1000000, ⟨[2], []⟩)], ⟨[2], []⟩⟩), (1000003, ⟨⟨[0, 52], []⟩, [(1000000, ⟨[0], []⟩)], ⟨[2], []⟩⟩)]⟩),
(97, ⟨[], [], [(3, ⟨⟨[0, 3, 4], []⟩, [(0, ⟨[3], []⟩)], ⟨[2], []⟩⟩)]⟩),
(99, ⟨[], [], [(2, ⟨⟨[0, 1, 7, 8], []⟩, [(0, ⟨[], []⟩)], ⟨[4], []⟩⟩)]⟩),
(106, ⟨[], [], [(4, ⟨⟨[0, 1, 5], []⟩, [(0, ⟨[], []⟩)], ⟨[4], []⟩⟩)]⟩)]
def fiF (f : Nat) : Fi := (qL f fis).getD ⟨[], [], []⟩
noncomputable def C : Ctx := { ti := fun t => qL t tis, fs := fun f => qL f fns, fi := fiF }
def bodyOf (f : Func) : Code := f.body.getD .skip
def qLk (f : Func) (k : Nat) : Code := (qS k (bodyOf f)).getD .skip
def qNd (f : Func) (k : Nat) : Code := (qV k (bodyOf f)).getD .skip
def qPl (l : List (Nat × Li)) (k : Nat) : Li := (qL k l).getD ⟨⟨[], []⟩, [], ⟨[], []⟩⟩
theorem qMU : (tis.all fun x => tiB Tryz.prog x.1 x.2) = true := by kernel_rfl
theorem qMq : (fns.all fun x => fnB (fiF x.1) x.2) = true := by kernel_rfl
theorem fnp (f : Nat) (x : Func) (r : List (Nat × Func)) (h : Tryz.prog.funcs[f]? = some x) (hr : ∀ y ∈ r, Tryz.prog.funcs[y.1]? = some y.2) : ∀ y ∈ (f, x) :: r, Tryz.prog.funcs[y.1]? = some y.2 := List.forall_mem_cons.2 ⟨h, hr⟩
set_option maxRecDepth 100000 in
theorem qKU : ∀ x ∈ fns, Tryz.prog.funcs[x.1]? = some x.2 := (fnp _ _ _ Tryz.func3
(fnp _ _ _ Tryz.func4
(fnp _ _ _ Tryz.func5
(fnp _ _ _ Tryz.func6
(fnp _ _ _ Tryz.func7
(fnp _ _ _ Tryz.func8
(fnp _ _ _ Tryz.func9
(fnp _ _ _ Tryz.func10
(fnp _ _ _ Tryz.func11
(fnp _ _ _ Tryz.func12
(fnp _ _ _ Tryz.func13
(fnp _ _ _ Tryz.func14
(fnp _ _ _ Tryz.func15
(fnp _ _ _ Tryz.func16
(fnp _ _ _ Tryz.func17
(fnp _ _ _ Tryz.func18
(fnp _ _ _ Tryz.func19
(fnp _ _ _ Tryz.func20
(fnp _ _ _ Tryz.func21
(fnp _ _ _ Tryz.func22
(fnp _ _ _ Tryz.func23
(fnp _ _ _ Tryz.func24
(fnp _ _ _ Tryz.func25
(fnp _ _ _ Tryz.func26
(fnp _ _ _ Tryz.func27
(fnp _ _ _ Tryz.func28
(fnp _ _ _ Tryz.func29
(fnp _ _ _ Tryz.func30
(fnp _ _ _ Tryz.func31
(fnp _ _ _ Tryz.func32
(fnp _ _ _ Tryz.func33
(fnp _ _ _ Tryz.func34
(fnp _ _ _ Tryz.func35
(fnp _ _ _ Tryz.func36
(fnp _ _ _ Tryz.func37
(fnp _ _ _ Tryz.func38
(fnp _ _ _ Tryz.func39
(fnp _ _ _ Tryz.func40
(fnp _ _ _ Tryz.func41
(fnp _ _ _ Tryz.func42
(fnp _ _ _ Tryz.func43
(fnp _ _ _ Tryz.func44
(fnp _ _ _ Tryz.func45
(fnp _ _ _ Tryz.func46
(fnp _ _ _ Tryz.func47
(fnp _ _ _ Tryz.func48
(fnp _ _ _ Tryz.func49
(fnp _ _ _ Tryz.func50
(fnp _ _ _ Tryz.func51
(fnp _ _ _ Tryz.func52
(fnp _ _ _ Tryz.func53
(fnp _ _ _ Tryz.func54
(fnp _ _ _ Tryz.func55
(fnp _ _ _ Tryz.func56
(fnp _ _ _ Tryz.func57
(fnp _ _ _ Tryz.func59
(fnp _ _ _ Tryz.func60
(fnp _ _ _ Tryz.func61
(fnp _ _ _ Tryz.func62
(fnp _ _ _ Tryz.func63
(fnp _ _ _ Tryz.func64
(fnp _ _ _ Tryz.func65
(fnp _ _ _ Tryz.func66
(fnp _ _ _ Tryz.func67
(fnp _ _ _ Tryz.func68
(fnp _ _ _ Tryz.func72
(fnp _ _ _ Tryz.func73
(fnp _ _ _ Tryz.func74
(fnp _ _ _ Tryz.func75
(fnp _ _ _ Tryz.func76
(fnp _ _ _ Tryz.func77
(fnp _ _ _ Tryz.func78
(fnp _ _ _ Tryz.func79
(fnp _ _ _ Tryz.func80
(fnp _ _ _ Tryz.func81
(fnp _ _ _ Tryz.func82
(fnp _ _ _ Tryz.func94
(fnp _ _ _ Tryz.func95
(fnp _ _ _ Tryz.func96
(fnp _ _ _ Tryz.func97
(fnp _ _ _ Tryz.func98
(fnp _ _ _ Tryz.func99
(fnp _ _ _ Tryz.func106
(fnp _ _ _ Tryz.func107
(fun _ h => by cases h)))))))))))))))))))))))))))))))))))))))))))))))))))))))))))))))))))))))))))))))))))))
theorem C_ok : jD Tryz.prog C := qNe qMU qKU
theorem C_fns : qGb Tryz.prog C := Go.Vsi.fns_ok qMq
theorem C_follows : Tryz.prog.follows .mixedOrders = true := by kernel_rfl
def CT (X0 : CallF) (f : Nat) (A : List TS) (u : Nat -> VA A -> (RES -> Prop) -> Prop) : Prop := ∀ n v K, u n v K -> callM C X0 n f (qAu A v) K
def LT (X0 : CallF) (f k : Nat) (T : ST) (u : Nat -> T.V -> (X -> St -> Prop) -> Prop) : Prop := ∀ n v K, u n v K -> yF C X0 n f k (T.fill v) K
structure CS (X0 : CallF) where
 c : Nat -> CallF
 ok : ∀ n g a K, c n g a K -> callM C X0 n g a K
structure LS (X0 : CallF) (f : Nat) where
 l : Nat -> kM
 ok : ∀ n k st K, l n k st K -> yF C X0 n f k st K
def nL {X0 : CallF} {f : Nat} : LS X0 f := ⟨fun _ => noL, fun _ => qM4⟩
def oL {X0 : CallF} {f k : Nat} {T : ST} {u : Nat -> T.V -> (X -> St -> Prop) -> Prop} (h : LT X0 f k T u) (r : LS X0 f) : LS X0 f := ⟨fun n => orL k T (u n) (r.l n), fun n => qM1 (h n) (r.ok n)⟩
def oC {X0 : CallF} {f : Nat} {A : List TS} {u : Nat -> VA A -> (RES -> Prop) -> Prop} (h : CT X0 f A u) (d : CS X0) : CS X0 := ⟨fun n => orC f A (u n) (d.c n), fun n => qM2 (h n) (d.ok n)⟩
def D0 {X0 : CallF} (hX : CallF.Mono X0) : CS X0 := ⟨fun _ => noC, fun _ => qM5⟩
theorem ct {X0 : CallF} (hX : CallF.Mono X0) {f : Nat} (fn : Func) {A : List TS} {u : Nat -> VA A -> (RES -> Prop) -> Prop} (e : (C.fs f, fn.body) = (some fn, some (bodyOf fn))) (h0 : ∀ v K, ¬ u 0 v K) (d : CS X0) (l : LS X0 f)
  (he : ∀ n v K, u (n + 1) v K = evC C (d.c n) fn.ntmps (C.fi f) (l.l n) (bodyOf fn) (enter (C.fi f).modes (qAu A v)) (qCk C fn (C.fi f) (qAu A v) K)) : CT X0 f A u :=
 qJZ hX (congrArg Prod.fst e) (congrArg Prod.snd e) h0 d.ok l.ok he
theorem lt {X0 : CallF} (hX : CallF.Mono X0) {f k : Nat} (fn : Func) {T : ST} {u : Nat -> T.V -> (X -> St -> Prop) -> Prop}
  (e : (C.fs f, fn.body, decide (k < 1000000), qS k (bodyOf fn), qL k (C.fi f).loops) = (some fn, some (bodyOf fn), true, some (qLk fn k), some (qPl (C.fi f).loops k))) (h0 : ∀ v K, ¬ u 0 v K) (d : CS X0) (l : LS X0 f)
  (he : ∀ n v K, u (n + 1) v K = evC C (d.c n) fn.ntmps (C.fi f) (l.l n) (qLk fn k) (T.fill v) (qBT (qPl (C.fi f).loops k) (qPn T fun v' => u n v' K) K)) : LT X0 f k T u :=
 qFA hX (congrArg (·.1) e) (congrArg (·.2.1) e) (of_decide_eq_true (congrArg (·.2.2.1) e)) (congrArg (·.2.2.2.1) e) (congrArg (·.2.2.2.2) e) h0 d.ok l.ok he
theorem cu {X0 : CallF} (hX : CallF.Mono X0) {f k : Nat} (fn : Func) {T : ST} {u : Nat -> T.V -> (X -> St -> Prop) -> Prop}
  (e : (C.fs f, fn.body, decide (1000000 <= k), qV (k - 1000000) (bodyOf fn), qL k (C.fi f).loops) = (some fn, some (bodyOf fn), true, some (qNd fn (k - 1000000)), some (qPl (C.fi f).loops k))) (h0 : ∀ v K, ¬ u 0 v K) (d : CS X0) (l : LS X0 f)
  (he : ∀ n v K, u (n + 1) v K = evC C (d.c n) fn.ntmps (C.fi f) (l.l n) (qNd fn (k - 1000000)) (T.fill v) (qLs (qPl (C.fi f).loops k) K)) : LT X0 f k T u :=
 qKY hX (congrArg (·.1) e) (congrArg (·.2.1) e) (of_decide_eq_true (congrArg (·.2.2.1) e)) (congrArg (·.2.2.2.1) e) (congrArg (·.2.2.2.2) e) h0 d.ok l.ok he
end Go.Vsi
namespace Go.Proofs
open Go.Shelf
def Tryz.srtL_ren : Go.Shelf.Ren := ⟨fun | 5 => 58 | 8 => 71 | 7 => 70 | 19 => 92 | 20 => 93 | 10 => 83 | 11 => 84 | 12 => 85 | 13 => 86 | 14 => 87 | 15 => 88 | 16 => 89 | 17 => 90 | 18 => 91 | 30 => 100 | 31 => 101 | 32 => 102 | 33 => 103 | 34 => 104 | 35 => 105 | 40 => 108 | n => n, fun | 23 => 50 | 25 => 2 | 3 => 3 | 32 => 115 | 22 => 50 | 0 => 0 | 44 => 134 | 46 => 98 | 4 => 4 | 36 => 127 | 35 => 126 | 41 => 81 | 5 => 5 | 9 => 9 | 53 => 140 | 57 => 144 | 63 => 148 | 64 => 149 | n => n, fun | n => n⟩
theorem Tryz.srtL : Go.Proofs.SlLaysM.n5 Tryz.prog Tryz.srtL_ren := {
 mixed := by kernel_rfl,
 f5 := ⟨Tryz.f58.name, by decide, Tryz.func58.trans (congrArg some (by kernel_rfl))⟩,
 f7 := ⟨Tryz.f70.name, by decide, Tryz.func70.trans (congrArg some (by kernel_rfl))⟩,
 f8 := Tryz.func71.trans (congrArg some (by kernel_rfl)),
 f10 := ⟨Tryz.f83.name, by decide, Tryz.func83.trans (congrArg some (by kernel_rfl))⟩,
 f11 := ⟨Tryz.f84.name, by decide, Tryz.func84.trans (congrArg some (by kernel_rfl))⟩,
 f12 := ⟨Tryz.f85.name, by decide, Tryz.func85.trans (congrArg some (by kernel_rfl))⟩,
 f13 := ⟨Tryz.f86.name, by decide, Tryz.func86.trans (congrArg some (by kernel_rfl))⟩,
 f14 := ⟨Tryz.f87.name, by decide, Tryz.func87.trans (congrArg some (by kernel_rfl))⟩,
 f15 := ⟨Tryz.f88.name, by decide, Tryz.func88.trans (congrArg some (by kernel_rfl))⟩,
 f16 := ⟨Tryz.f89.name, by decide, Tryz.func89.trans (congrArg some (by kernel_rfl))⟩,
 f17 := ⟨Tryz.f90.name, by decide, Tryz.func90.trans (congrArg some (by kernel_rfl))⟩,
 f18 := ⟨Tryz.f91.name, by decide, Tryz.func91.trans (congrArg some (by kernel_rfl))⟩,
 f19 := Tryz.func92.trans (congrArg some (by kernel_rfl)),
 f20 := Tryz.func93.trans (congrArg some (by kernel_rfl)),
 f30 := ⟨Tryz.f100.name, by decide, Tryz.func100.trans (congrArg some (by kernel_rfl))⟩,
 f31 := Tryz.func101.trans (congrArg some (by kernel_rfl)),
 f32 := Tryz.func102.trans (congrArg some (by kernel_rfl)),
 f33 := ⟨Tryz.f103.name, by decide, Tryz.func103.trans (congrArg some (by kernel_rfl))⟩,
 f34 := ⟨Tryz.f104.name, by decide, Tryz.func104.trans (congrArg some (by kernel_rfl))⟩,
 f35 := ⟨Tryz.f105.name, by decide, Tryz.func105.trans (congrArg some (by kernel_rfl))⟩,
 f40 := ⟨Tryz.f108.name, by decide, Tryz.func108.trans (congrArg some (by kernel_rfl))⟩,
 t0 := Tryz.underlying0,
 a0 := Tryz.isAgg0,
 z0 := Tryz.sizeOf0,
 v0 := Tryz.zeroValue0,
 t3 := Tryz.underlying3,
 a3 := Tryz.isAgg3,
 z3 := Tryz.sizeOf3,
 v3 := Tryz.zeroValue3,
 t4 := Tryz.underlying4,
 a4 := Tryz.isAgg4,
 z4 := Tryz.sizeOf4,
 v4 := Tryz.zeroValue4,
 t5 := Tryz.underlying5,
 a5 := Tryz.isAgg5,
 z5 := Tryz.sizeOf5,
 v5 := Tryz.zeroValue5,
 t9 := Tryz.underlying9,
 a9 := Tryz.isAgg9,
 z9 := Tryz.sizeOf9,
 v9 := Tryz.zeroValue9,
 t22 := Tryz.underlying50,
 a22 := Tryz.isAgg50,
 z22 := Tryz.sizeOf50,
 v22 := Tryz.zeroValue50,
 t23 := Tryz.underlying50,
 a23 := Tryz.isAgg50,
 z23 := Tryz.sizeOf50,
 v23 := Tryz.zeroValue50,
 t25 := Tryz.underlying2,
 a25 := Tryz.isAgg2,
 z25 := Tryz.sizeOf2,
 v25 := Tryz.zeroValue2,
 t32 := Tryz.underlying115,
 a32 := Tryz.isAgg115,
 z32 := Tryz.sizeOf115,
 v32 := Tryz.zeroValue115,
 t35 := Tryz.underlying126,
 a35 := Tryz.isAgg126,
 z35 := Tryz.sizeOf126,
 v35 := Tryz.zeroValue126,
 t36 := Tryz.underlying127,
 a36 := Tryz.isAgg127,
 z36 := Tryz.sizeOf127,
 v36 := Tryz.zeroValue127,
 t41 := Tryz.underlying81,
 a41 := Tryz.isAgg81,
 z41 := Tryz.sizeOf81,
 v41 := Tryz.zeroValue81,
 t44 := Tryz.underlying134,
 a44 := Tryz.isAgg134,
 z44 := Tryz.sizeOf134,
 v44 := Tryz.zeroValue134,
 t46 := Tryz.underlying98,
 a46 := Tryz.isAgg98,
 z46 := Tryz.sizeOf98,
 v46 := Tryz.zeroValue98,
 t53 := Tryz.underlying140,
 a53 := Tryz.isAgg140,
 z53 := Tryz.sizeOf140,
 v53 := Tryz.zeroValue140,
 t57 := Tryz.underlying144,
 a57 := Tryz.isAgg144,
 z57 := Tryz.sizeOf144,
 v57 := Tryz.zeroValue144,
 t63 := Tryz.underlying148,
 a63 := Tryz.isAgg148,
 z63 := Tryz.sizeOf148,
 v63 := Tryz.zeroValue148,
 t64 := Tryz.underlying149,
 a64 := Tryz.isAgg149,
 z64 := Tryz.sizeOf149,
 v64 := Tryz.zeroValue149 }
end Go.Proofs
namespace Go.Vsi
open Go.Proofs
theorem qL3 : qLW Tryz.prog 58 := ⟨fun blk off cap zs w hH hb hs => AnyM.slices_Sort_int Tryz.srtL blk off cap zs w hH hb hs, fun p cap w => AnyM.slices_Sort_int_none Tryz.srtL p cap w⟩
end Go.Vsi
namespace Go.Proofs
open Go.Shelf
def Tryz.growL_ren : Go.Shelf.Ren := ⟨fun | 4 => 69 | n => n, fun | 22 => 50 | 25 => 2 | 3 => 3 | 4 => 4 | 9 => 9 | 20 => 20 | 0 => 0 | n => n, fun | n => n⟩
theorem Tryz.growL : Go.Proofs.Lays8.n4 Tryz.prog Tryz.growL_ren := {
 mixed := by kernel_rfl,
 f4 := ⟨Tryz.f69.name, by decide, Tryz.func69.trans (congrArg some (by kernel_rfl))⟩,
 t0 := Tryz.underlying0,
 a0 := Tryz.isAgg0,
 z0 := Tryz.sizeOf0,
 v0 := Tryz.zeroValue0,
 t3 := Tryz.underlying3,
 a3 := Tryz.isAgg3,
 z3 := Tryz.sizeOf3,
 v3 := Tryz.zeroValue3,
 t4 := Tryz.underlying4,
 a4 := Tryz.isAgg4,
 z4 := Tryz.sizeOf4,
 v4 := Tryz.zeroValue4,
 t9 := Tryz.underlying9,
 a9 := Tryz.isAgg9,
 z9 := Tryz.sizeOf9,
 v9 := Tryz.zeroValue9,
 t20 := Tryz.underlying20,
 a20 := Tryz.isAgg20,
 z20 := Tryz.sizeOf20,
 v20 := Tryz.zeroValue20,
 t22 := Tryz.underlying50,
 a22 := Tryz.isAgg50,
 z22 := Tryz.sizeOf50,
 v22 := Tryz.zeroValue50 }
end Go.Proofs
namespace Go.Vsi
open Go.Proofs
theorem qMl : qKm Tryz.prog 69 2 := qJA Tryz.growL (by kernel_rfl) (by kernel_rfl) (by kernel_rfl)
def X0 : CallF := qMz (qIJ 58) (qMm 69 2)
theorem X0_mono : CallF.Mono X0 := qIk (qHR _) (qH7 _ _)
set_option maxRecDepth 100000 in
theorem X0_ok : kS Tryz.prog C X0 := qK2 (qKy qL3 (by kernel_rfl) Tryz.func58 (by kernel_rfl) (by kernel_rfl)) (qKS qMl (by kernel_rfl) Tryz.func69 (by kernel_rfl) (by kernel_rfl))
theorem qME : ∀ args K, qHS args K -> X0 58 args K := fun args K h => .inl ⟨rfl, h⟩
theorem qMF : ∀ args K, qJB 2 args K -> X0 69 args K := fun args K h => .inr ⟨rfl, h⟩
end Go.Vsi
end

section
namespace Go.Vsi
open Go.Proofs
section
variable (hX : CallF.Mono X0)
include hX
abbrev Z40.a : List TS := [.a [.o .str, .o (.int .i64)], .c (.o (.int .i64))]
def Z40.u (n : Nat) (v : VA Z40.a) (K : RES -> Prop) : Prop := Z40.c n v.1.1 v.1.2.1 v.2.1 (fun r0 => K ⟨.c (.int .i64 r0), []⟩)
theorem qOo : CT X0 17 Z40.a Z40.u :=
 ct hX Tryz.f17 (by kernel_rfl) (fun _ _ h => h) (D0 hX) nL (fun n v K => by kernel_rfl)
def D1 : CS X0 := oC (qOo hX) (D0 hX)
abbrev Z41.a : List TS := [.c (.o (.dat 42 Y8)), .c (.o (.int .i64))]
def Z41.u (n : Nat) (v : VA Z41.a) (K : RES -> Prop) : Prop := Z41.c n v.1 v.2.1 (fun r0 => K ⟨.c (.int .i64 r0), []⟩)
abbrev Z41.l5.s : ST := ⟨[(0, .c (.o (.dat 42 Y8))), (1, .c (.o (.int .i64))), (5, .c (.o (.int .i64)))], [], [], [], []⟩
def Z41.l5.u (n : Nat) (v : Z41.l5.s.V) (K : X -> St -> Prop) : Prop := Z41.l5 n v.1.1 v.1.2.1 v.1.2.2.1 (fun y0 => K (.exit 0) ⟨[(1, .c (.int .i64 y0))], [], [], [], []⟩) (fun y0 => K .ret ⟨[(4, .c (.int .i64 y0))], [], [], [], []⟩)
theorem Z41.l5_ok : LT X0 4 5 Z41.l5.s Z41.l5.u :=
 lt hX Tryz.f4 (by kernel_rfl) (fun _ _ h => h) (D1 hX) nL (fun n v K => by kernel_rfl)
theorem qOm : CT X0 4 Z41.a Z41.u :=
 ct hX Tryz.f4 (by kernel_rfl) (fun _ _ h => h) (D1 hX) (oL (Z41.l5_ok hX) nL) (fun n v K => by kernel_rfl)
def D2 : CS X0 := oC (qOm hX) (D1 hX)
abbrev Z48.a : List TS := [.c (.o (.dat 98 (.int .u64))), .c (.o (.int .i64))]
def Z48.u (n : Nat) (v : VA Z48.a) (K : RES -> Prop) : Prop := Z48.c n v.1 v.2.1 (fun r0 => K ⟨.c (.int .i64 r0), []⟩)
theorem qN8 : CT X0 95 Z48.a Z48.u :=
 ct hX Tryz.f95 (by kernel_rfl) (fun _ _ h => h) (D2 hX) nL (fun n v K => by kernel_rfl)
def D3 : CS X0 := oC (qN8 hX) (D2 hX)
abbrev Z39.a : List TS := [.a [.o (.int .i64), .o (.dat 98 (.int .u64))], .c (.o (.int .i64))]
def Z39.u (n : Nat) (v : VA Z39.a) (K : RES -> Prop) : Prop := Z39.c n v.1.1 v.1.2.1 v.2.1 (fun r0 => K ⟨.c (.int .i64 r0), []⟩)
theorem qOq : CT X0 73 Z39.a Z39.u :=
 ct hX Tryz.f73 (by kernel_rfl) (fun _ _ h => h) (D3 hX) nL (fun n v K => by kernel_rfl)
def D4 : CS X0 := oC (qOq hX) (D3 hX)
abbrev Z42.a : List TS := [.c (.o (.dat 2 (.int .i64))), .c (.o (.int .i64))]
def Z42.u (n : Nat) (v : VA Z42.a) (K : RES -> Prop) : Prop := Z42.c n v.1 v.2.1 (fun r0 => K ⟨.c (.int .i64 r0), []⟩)
theorem qOk : CT X0 74 Z42.a Z42.u :=
 ct hX Tryz.f74 (by kernel_rfl) (fun _ _ h => h) (D4 hX) nL (fun n v K => by kernel_rfl)
def D5 : CS X0 := oC (qOk hX) (D4 hX)
abbrev Z45.a : List TS := [.a [.o (.int .i64), .o (.int .i64), .o (.int .i64), .o (.int .i64), .o (.int .i64), .o (.dat 98 (.int .u64)), .o (.dat 2 (.int .i64))], .c (.o (.int .i64))]
def Z45.u (n : Nat) (v : VA Z45.a) (K : RES -> Prop) : Prop := Z45.c n v.1.1 v.1.2.1 v.1.2.2.1 v.1.2.2.2.1 v.1.2.2.2.2.1 v.1.2.2.2.2.2.1 v.1.2.2.2.2.2.2.1 v.2.1 (fun r0 => K ⟨.c (.int .i64 r0), []⟩)
theorem qOe : CT X0 61 Z45.a Z45.u :=
 ct hX Tryz.f61 (by kernel_rfl) (fun _ _ h => h) (D5 hX) nL (fun n v K => by kernel_rfl)
def D6 : CS X0 := oC (qOe hX) (D5 hX)
abbrev Z46.a : List TS := [.c (.o (.dat 102 Y4)), .c (.o (.int .i64))]
def Z46.u (n : Nat) (v : VA Z46.a) (K : RES -> Prop) : Prop := Z46.c n v.1 v.2.1 (fun r0 => K ⟨.c (.int .i64 r0), []⟩)
abbrev Z46.l5.s : ST := ⟨[(0, .c (.o (.dat 102 Y4))), (1, .c (.o (.int .i64))), (5, .c (.o (.int .i64)))], [], [], [], []⟩
def Z46.l5.u (n : Nat) (v : Z46.l5.s.V) (K : X -> St -> Prop) : Prop := Z46.l5 n v.1.1 v.1.2.1 v.1.2.2.1 (fun y0 => K (.exit 0) ⟨[(1, .c (.int .i64 y0))], [], [], [], []⟩) (fun y0 => K .ret ⟨[(4, .c (.int .i64 y0))], [], [], [], []⟩)
theorem Z46.l5_ok : LT X0 48 5 Z46.l5.s Z46.l5.u :=
 lt hX Tryz.f48 (by kernel_rfl) (fun _ _ h => h) (D6 hX) nL (fun n v K => by kernel_rfl)
theorem qOc : CT X0 48 Z46.a Z46.u :=
 ct hX Tryz.f48 (by kernel_rfl) (fun _ _ h => h) (D6 hX) (oL (Z46.l5_ok hX) nL) (fun n v K => by kernel_rfl)
def D7 : CS X0 := oC (qOc hX) (D6 hX)
abbrev Z47.a : List TS := [.a [.o (.dat 102 Y4)], .c (.o (.int .i64))]
def Z47.u (n : Nat) (v : VA Z47.a) (K : RES -> Prop) : Prop := Z47.c n v.1.1 v.2.1 (fun r0 => K ⟨.c (.int .i64 r0), []⟩)
theorem qOa : CT X0 35 Z47.a Z47.u :=
 ct hX Tryz.f35 (by kernel_rfl) (fun _ _ h => h) (D7 hX) nL (fun n v K => by kernel_rfl)
def D8 : CS X0 := oC (qOa hX) (D7 hX)
abbrev Z43.a : List TS := [.a [.o (.int .i64), .o .bool, .o (.dat 102 Y4), .o (.dat 102 Y4)], .c (.o (.int .i64))]
def Z43.u (n : Nat) (v : VA Z43.a) (K : RES -> Prop) : Prop := Z43.c n v.1.1 v.1.2.1 v.1.2.2.1 v.1.2.2.2.1 v.2.1 (fun r0 => K ⟨.c (.int .i64 r0), []⟩)
theorem qOi : CT X0 18 Z43.a Z43.u :=
 ct hX Tryz.f18 (by kernel_rfl) (fun _ _ h => h) (D8 hX) nL (fun n v K => by kernel_rfl)
def D9 : CS X0 := oC (qOi hX) (D8 hX)
abbrev Z44.a : List TS := [.c (.o (.dat 48 Y1)), .c (.o (.int .i64))]
def Z44.u (n : Nat) (v : VA Z44.a) (K : RES -> Prop) : Prop := Z44.c n v.1 v.2.1 (fun r0 => K ⟨.c (.int .i64 r0), []⟩)
abbrev Z44.l5.s : ST := ⟨[(0, .c (.o (.dat 48 Y1))), (1, .c (.o (.int .i64))), (5, .c (.o (.int .i64)))], [], [], [], []⟩
def Z44.l5.u (n : Nat) (v : Z44.l5.s.V) (K : X -> St -> Prop) : Prop := Z44.l5 n v.1.1 v.1.2.1 v.1.2.2.1 (fun y0 => K (.exit 0) ⟨[(1, .c (.int .i64 y0))], [], [], [], []⟩) (fun y0 => K .ret ⟨[(4, .c (.int .i64 y0))], [], [], [], []⟩)
theorem Z44.l5_ok : LT X0 5 5 Z44.l5.s Z44.l5.u :=
 lt hX Tryz.f5 (by kernel_rfl) (fun _ _ h => h) (D9 hX) nL (fun n v K => by kernel_rfl)
theorem qOg : CT X0 5 Z44.a Z44.u :=
 ct hX Tryz.f5 (by kernel_rfl) (fun _ _ h => h) (D9 hX) (oL (Z44.l5_ok hX) nL) (fun n v K => by kernel_rfl)
def D10 : CS X0 := oC (qOg hX) (D9 hX)
abbrev Z50.a : List TS := [.a [.o .str, .o (.int .i64)]]
def Z50.u (n : Nat) (v : VA Z50.a) (K : RES -> Prop) : Prop := Z50.c n v.1.1 v.1.2.1 (fun r0 r1 => K ⟨.agg [.str r0, .int .i64 r1], []⟩)
theorem qN4 : CT X0 23 Z50.a Z50.u :=
 ct hX Tryz.f23 (by kernel_rfl) (fun _ _ h => h) (D10 hX) nL (fun n v K => by kernel_rfl)
def D11 : CS X0 := oC (qN4 hX) (D10 hX)
abbrev Z51.a : List TS := [.c (.o (.dat 42 Y8))]
def Z51.u (n : Nat) (v : VA Z51.a) (K : RES -> Prop) : Prop := Z51.c n v.1 (fun r0 => K ⟨.c (.row ⟨59, .prod .str (.int .i64), r0, 99, none, []⟩), []⟩)
abbrev Z51.l3.s : ST := ⟨[(0, .c (.o (.dat 42 Y8))), (3, .c (.o (.own 224))), (4, .c (.o (.int .i64)))], [⟨224, 59, .prod .str (.int .i64), 99, false⟩], [], [], []⟩
def Z51.l3.u (n : Nat) (v : Z51.l3.s.V) (K : X -> St -> Prop) : Prop := Z51.l3 n v.1.1 v.1.2.2.1 v.2.1.1 (fun y0 => K (.exit 0) ⟨[(3, .c (.own 224))], [(224, ⟨59, .prod .str (.int .i64), y0, 99, none, []⟩)], [], [], []⟩)
theorem Z51.l3_ok : LT X0 7 3 Z51.l3.s Z51.l3.u :=
 lt hX Tryz.f7 (by kernel_rfl) (fun _ _ h => h) (D11 hX) nL (fun n v K => by kernel_rfl)
theorem qN2 : CT X0 7 Z51.a Z51.u :=
 ct hX Tryz.f7 (by kernel_rfl) (fun _ _ h => h) (D11 hX) (oL (Z51.l3_ok hX) nL) (fun n v K => by kernel_rfl)
def D12 : CS X0 := oC (qN2 hX) (D11 hX)
abbrev Z58.a : List TS := [.c (.o (.dat 98 (.int .u64)))]
def Z58.u (n : Nat) (v : VA Z58.a) (K : RES -> Prop) : Prop := Z58.c n v.1 (fun r0 => K ⟨.c (.row ⟨98, .int .u64, r0, 99, none, []⟩), []⟩)
abbrev Z58.l3.s : ST := ⟨[(0, .c (.o (.dat 98 (.int .u64)))), (3, .c (.o (.own 224))), (4, .c (.o (.int .i64)))], [⟨224, 98, .int .u64, 99, false⟩], [], [], []⟩
def Z58.l3.u (n : Nat) (v : Z58.l3.s.V) (K : X -> St -> Prop) : Prop := Z58.l3 n v.1.1 v.1.2.2.1 v.2.1.1 (fun y0 => K (.exit 0) ⟨[(3, .c (.own 224))], [(224, ⟨98, .int .u64, y0, 99, none, []⟩)], [], [], []⟩)
theorem Z58.l3_ok : LT X0 97 3 Z58.l3.s Z58.l3.u :=
 lt hX Tryz.f97 (by kernel_rfl) (fun _ _ h => h) (D12 hX) nL (fun n v K => by kernel_rfl)
theorem qNO : CT X0 97 Z58.a Z58.u :=
 ct hX Tryz.f97 (by kernel_rfl) (fun _ _ h => h) (D12 hX) (oL (Z58.l3_ok hX) nL) (fun n v K => by kernel_rfl)
def D13 : CS X0 := oC (qNO hX) (D12 hX)
abbrev Z49.a : List TS := [.a [.o (.int .i64), .o (.dat 98 (.int .u64))]]
def Z49.u (n : Nat) (v : VA Z49.a) (K : RES -> Prop) : Prop := Z49.c n v.1.1 v.1.2.1 (fun r0 r1 => K ⟨.agg [.int .i64 r0, .row ⟨98, .int .u64, r1, 99, none, []⟩], []⟩)
theorem qN6 : CT X0 78 Z49.a Z49.u :=
 ct hX Tryz.f78 (by kernel_rfl) (fun _ _ h => h) (D13 hX) nL (fun n v K => by kernel_rfl)
def D14 : CS X0 := oC (qN6 hX) (D13 hX)
abbrev Z52.a : List TS := [.c (.o (.dat 2 (.int .i64)))]
def Z52.u (n : Nat) (v : VA Z52.a) (K : RES -> Prop) : Prop := Z52.c n v.1 (fun r0 => K ⟨.c (.row ⟨2, .int .i64, r0, 99, none, []⟩), []⟩)
abbrev Z52.l3.s : ST := ⟨[(0, .c (.o (.dat 2 (.int .i64)))), (3, .c (.o (.own 224))), (4, .c (.o (.int .i64)))], [⟨224, 2, .int .i64, 99, false⟩], [], [], []⟩
def Z52.l3.u (n : Nat) (v : Z52.l3.s.V) (K : X -> St -> Prop) : Prop := Z52.l3 n v.1.1 v.1.2.2.1 v.2.1.1 (fun y0 => K (.exit 0) ⟨[(3, .c (.own 224))], [(224, ⟨2, .int .i64, y0, 99, none, []⟩)], [], [], []⟩)
theorem Z52.l3_ok : LT X0 79 3 Z52.l3.s Z52.l3.u :=
 lt hX Tryz.f79 (by kernel_rfl) (fun _ _ h => h) (D14 hX) nL (fun n v K => by kernel_rfl)
theorem qN0 : CT X0 79 Z52.a Z52.u :=
 ct hX Tryz.f79 (by kernel_rfl) (fun _ _ h => h) (D14 hX) (oL (Z52.l3_ok hX) nL) (fun n v K => by kernel_rfl)
def D15 : CS X0 := oC (qN0 hX) (D14 hX)
abbrev Z55.a : List TS := [.a [.o (.int .i64), .o (.int .i64), .o (.int .i64), .o (.int .i64), .o (.int .i64), .o (.dat 98 (.int .u64)), .o (.dat 2 (.int .i64))]]
def Z55.u (n : Nat) (v : VA Z55.a) (K : RES -> Prop) : Prop := Z55.c n v.1.1 v.1.2.1 v.1.2.2.1 v.1.2.2.2.1 v.1.2.2.2.2.1 v.1.2.2.2.2.2.1 v.1.2.2.2.2.2.2.1 (fun r0 r1 r2 r3 r4 r5 r6 => K ⟨.agg [.int .i64 r0, .int .i64 r1, .int .i64 r2, .int .i64 r3, .int .i64 r4, .row ⟨98, .int .u64, r5, 99, none, []⟩, .row ⟨2, .int .i64, r6, 99, none, []⟩], []⟩)
theorem qNU : CT X0 65 Z55.a Z55.u :=
 ct hX Tryz.f65 (by kernel_rfl) (fun _ _ h => h) (D15 hX) nL (fun n v K => by kernel_rfl)
def D16 : CS X0 := oC (qNU hX) (D15 hX)
abbrev Z56.a : List TS := [.c (.o (.dat 102 Y4))]
def Z56.u (n : Nat) (v : VA Z56.a) (K : RES -> Prop) : Prop := Z56.c n v.1 (fun r0 => K ⟨.c (.row ⟨88, .prod (.int .i64) Y5, r0, 99, none, []⟩), []⟩)
abbrev Z56.l3.s : ST := ⟨[(0, .c (.o (.dat 102 Y4))), (3, .c (.o (.own 224))), (4, .c (.o (.int .i64)))], [⟨224, 88, .prod (.int .i64) Y5, 99, false⟩], [], [], []⟩
def Z56.l3.u (n : Nat) (v : Z56.l3.s.V) (K : X -> St -> Prop) : Prop := Z56.l3 n v.1.1 v.1.2.2.1 v.2.1.1 (fun y0 => K (.exit 0) ⟨[(3, .c (.own 224))], [(224, ⟨88, .prod (.int .i64) Y5, y0, 99, none, []⟩)], [], [], []⟩)
theorem Z56.l3_ok : LT X0 51 3 Z56.l3.s Z56.l3.u :=
 lt hX Tryz.f51 (by kernel_rfl) (fun _ _ h => h) (D16 hX) nL (fun n v K => by kernel_rfl)
theorem qNS : CT X0 51 Z56.a Z56.u :=
 ct hX Tryz.f51 (by kernel_rfl) (fun _ _ h => h) (D16 hX) (oL (Z56.l3_ok hX) nL) (fun n v K => by kernel_rfl)
def D17 : CS X0 := oC (qNS hX) (D16 hX)
abbrev Z57.a : List TS := [.a [.o (.dat 102 Y4)]]
def Z57.u (n : Nat) (v : VA Z57.a) (K : RES -> Prop) : Prop := Z57.c n v.1.1 (fun r0 => K ⟨.agg [.row ⟨88, .prod (.int .i64) Y5, r0, 99, none, []⟩], []⟩)
theorem qNQ : CT X0 42 Z57.a Z57.u :=
 ct hX Tryz.f42 (by kernel_rfl) (fun _ _ h => h) (D17 hX) nL (fun n v K => by kernel_rfl)
def D18 : CS X0 := oC (qNQ hX) (D17 hX)
abbrev Z53.a : List TS := [.a [.o (.int .i64), .o .bool, .o (.dat 102 Y4), .o (.dat 102 Y4)]]
def Z53.u (n : Nat) (v : VA Z53.a) (K : RES -> Prop) : Prop := Z53.c n v.1.1 v.1.2.1 v.1.2.2.1 v.1.2.2.2.1 (fun r0 r1 r2 r3 => K ⟨.agg [.int .i64 r0, .bool r1, .row ⟨88, .prod (.int .i64) Y5, r2, 99, none, []⟩, .row ⟨88, .prod (.int .i64) Y5, r3, 99, none, []⟩], []⟩)
theorem qNY : CT X0 24 Z53.a Z53.u :=
 ct hX Tryz.f24 (by kernel_rfl) (fun _ _ h => h) (D18 hX) nL (fun n v K => by kernel_rfl)
def D19 : CS X0 := oC (qNY hX) (D18 hX)
abbrev Z54.a : List TS := [.c (.o (.dat 48 Y1))]
def Z54.u (n : Nat) (v : VA Z54.a) (K : RES -> Prop) : Prop := Z54.c n v.1 (fun r0 => K ⟨.c (.row ⟨56, .prod (.int .i64) Y3, r0, 99, none, []⟩), []⟩)
abbrev Z54.l3.s : ST := ⟨[(0, .c (.o (.dat 48 Y1))), (3, .c (.o (.own 224))), (4, .c (.o (.int .i64)))], [⟨224, 56, .prod (.int .i64) Y3, 99, false⟩], [], [], []⟩
def Z54.l3.u (n : Nat) (v : Z54.l3.s.V) (K : X -> St -> Prop) : Prop := Z54.l3 n v.1.1 v.1.2.2.1 v.2.1.1 (fun y0 => K (.exit 0) ⟨[(3, .c (.own 224))], [(224, ⟨56, .prod (.int .i64) Y3, y0, 99, none, []⟩)], [], [], []⟩)
theorem Z54.l3_ok : LT X0 8 3 Z54.l3.s Z54.l3.u :=
 lt hX Tryz.f8 (by kernel_rfl) (fun _ _ h => h) (D19 hX) nL (fun n v K => by kernel_rfl)
theorem qNW : CT X0 8 Z54.a Z54.u :=
 ct hX Tryz.f8 (by kernel_rfl) (fun _ _ h => h) (D19 hX) (oL (Z54.l3_ok hX) nL) (fun n v K => by kernel_rfl)
def D20 : CS X0 := oC (qNW hX) (D19 hX)
abbrev Z75.a : List TS := [.c (.o (.int .u8))]
def Z75.u (n : Nat) (v : VA Z75.a) (K : RES -> Prop) : Prop := Z75.c n v.1 (fun r0 => K ⟨.c (.bool r0), []⟩)
theorem qNu : CT X0 62 Z75.a Z75.u :=
 ct hX Tryz.f62 (by kernel_rfl) (fun _ _ h => h) (D20 hX) nL (fun n v K => by kernel_rfl)
def D21 : CS X0 := oC (qNu hX) (D20 hX)
abbrev Z78.a : List TS := [.c (.o .str)]
def Z78.u (n : Nat) (v : VA Z78.a) (K : RES -> Prop) : Prop := Z78.c n v.1 (fun r0 => K ⟨.c (.bool r0), []⟩)
abbrev Z78.l4.s : ST := ⟨[(0, .c (.o .str)), (3, .c (.o (.int .i64)))], [], [], [], []⟩
def Z78.l4.u (n : Nat) (v : Z78.l4.s.V) (K : X -> St -> Prop) : Prop := Z78.l4 n v.1.1 v.1.2.1 (K (.exit 0) ⟨[], [], [], [], []⟩) (fun y0 => K .ret ⟨[(2, .c (.bool y0))], [], [], [], []⟩)
theorem Z78.l4_ok : LT X0 49 4 Z78.l4.s Z78.l4.u :=
 lt hX Tryz.f49 (by kernel_rfl) (fun _ _ h => h) (D21 hX) nL (fun n v K => by kernel_rfl)
theorem qNr : CT X0 49 Z78.a Z78.u :=
 ct hX Tryz.f49 (by kernel_rfl) (fun _ _ h => h) (D21 hX) (oL (Z78.l4_ok hX) nL) (fun n v K => by kernel_rfl)
def D22 : CS X0 := oC (qNr hX) (D21 hX)
abbrev Z77.a : List TS := [.c (.o (.int .i64)), .c (.o (.int .i64)), .c (.o (.int .i64))]
def Z77.u (n : Nat) (v : VA Z77.a) (K : RES -> Prop) : Prop := Z77.c n v.1 v.2.1 v.2.2.1 (fun r0 => K ⟨.c (.bool r0), []⟩)
theorem qNs : CT X0 38 Z77.a Z77.u :=
 ct hX Tryz.f38 (by kernel_rfl) (fun _ _ h => h) (D22 hX) nL (fun n v K => by kernel_rfl)
def D23 : CS X0 := oC (qNs hX) (D22 hX)
abbrev Z67.a : List TS := [.c (.o (.dat 59 Y8))]
def Z67.u (n : Nat) (v : VA Z67.a) (K : RES -> Prop) : Prop := Z67.c n v.1 (fun r0 => K ⟨.c (.bool r0), []⟩)
abbrev Z67.l10.s : ST := ⟨[(0, .c (.o (.dat 59 Y8))), (3, .c (.o (.int .i64))), (4, .c (.o (.int .i64))), (5, .c (.o (.int .i64)))], [], [], [], []⟩
def Z67.l10.u (n : Nat) (v : Z67.l10.s.V) (K : X -> St -> Prop) : Prop := Z67.l10 n v.1.1 v.1.2.1 v.1.2.2.1 v.1.2.2.2.1 (fun y0 y1 y2 => K (.exit 2) ⟨[(0, .c (.dat 59 Y8 y0)), (3, .c (.int .i64 y1)), (4, .c (.int .i64 y2))], [], [], [], []⟩) (fun y0 => K .ret ⟨[(2, .c (.bool y0))], [], [], [], []⟩)
abbrev Z67.l5.s : ST := ⟨[(0, .c (.o (.dat 59 Y8))), (3, .c (.o (.int .i64))), (4, .c (.o (.int .i64)))], [], [], [], []⟩
def Z67.l5.u (n : Nat) (v : Z67.l5.s.V) (K : X -> St -> Prop) : Prop := Z67.l5 n v.1.1 v.1.2.1 v.1.2.2.1 (fun y0 => K (.exit 0) ⟨[(3, .c (.int .i64 y0))], [], [], [], []⟩) (fun y0 => K .ret ⟨[(2, .c (.bool y0))], [], [], [], []⟩)
theorem Z67.l10_ok : LT X0 36 10 Z67.l10.s Z67.l10.u :=
 lt hX Tryz.f36 (by kernel_rfl) (fun _ _ h => h) (D23 hX) nL (fun n v K => by kernel_rfl)
theorem Z67.l5_ok : LT X0 36 5 Z67.l5.s Z67.l5.u :=
 lt hX Tryz.f36 (by kernel_rfl) (fun _ _ h => h) (D23 hX) (oL (Z67.l10_ok hX) nL) (fun n v K => by kernel_rfl)
theorem qNC : CT X0 36 Z67.a Z67.u :=
 ct hX Tryz.f36 (by kernel_rfl) (fun _ _ h => h) (D23 hX) (oL (Z67.l5_ok hX) nL) (fun n v K => by kernel_rfl)
def D24 : CS X0 := oC (qNC hX) (D23 hX)
abbrev Z80.a : List TS := [.a [.o (.int .i64), .o (.dat 98 (.int .u64))]]
def Z80.u (n : Nat) (v : VA Z80.a) (K : RES -> Prop) : Prop := Z80.c n v.1.1 v.1.2.1 (fun r0 => K ⟨.c (.bool r0), []⟩)
theorem qNp : CT X0 75 Z80.a Z80.u :=
 ct hX Tryz.f75 (by kernel_rfl) (fun _ _ h => h) (D24 hX) nL (fun n v K => by kernel_rfl)
def D25 : CS X0 := oC (qNp hX) (D24 hX)
abbrev Z81.a : List TS := [.c (.o (.int .i64))]
def Z81.u (n : Nat) (v : VA Z81.a) (K : RES -> Prop) : Prop := Z81.c n v.1 (fun r0 => K ⟨.c (.bool r0), []⟩)
theorem qNo : CT X0 76 Z81.a Z81.u :=
 ct hX Tryz.f76 (by kernel_rfl) (fun _ _ h => h) (D25 hX) nL (fun n v K => by kernel_rfl)
def D26 : CS X0 := oC (qNo hX) (D25 hX)
abbrev Z74.a : List TS := [.a [.o (.int .i64), .o (.dat 98 (.int .u64))], .c (.o (.int .i64))]
def Z74.u (n : Nat) (v : VA Z74.a) (K : RES -> Prop) : Prop := Z74.c n v.1.1 v.1.2.1 v.2.1 (fun r0 => K ⟨.c (.int .u8 r0), []⟩)
theorem qNv : CT X0 96 Z74.a Z74.u :=
 ct hX Tryz.f96 (by kernel_rfl) (fun _ _ h => h) (D26 hX) nL (fun n v K => by kernel_rfl)
def D27 : CS X0 := oC (qNv hX) (D26 hX)
abbrev Z66.a : List TS := [.a [.o (.int .i64), .o (.dat 98 (.int .u64))]]
def Z66.u (n : Nat) (v : VA Z66.a) (K : RES -> Prop) : Prop := Z66.c n v.1.1 v.1.2.1 (fun r0 => K ⟨.c (.bool r0), []⟩)
abbrev Z66.l4.s : ST := ⟨[(1, .c (.o (.pbox 1 0))), (3, .c (.o (.int .i64)))], [], [⟨1, 86, [.o (.int .i64), .o (.dat 98 (.int .u64))], false, false⟩], [], []⟩
def Z66.l4.u (n : Nat) (v : Z66.l4.s.V) (K : X -> St -> Prop) : Prop := Z66.l4 n v.2.2.1.1 v.2.2.1.2.1 v.1.2.1 (K (.exit 0) ⟨[], [], [], [], []⟩) (fun y0 => K .ret ⟨[(2, .c (.bool y0))], [], [], [], []⟩)
theorem Z66.l4_ok : LT X0 77 4 Z66.l4.s Z66.l4.u :=
 lt hX Tryz.f77 (by kernel_rfl) (fun _ _ h => h) (D27 hX) nL (fun n v K => by kernel_rfl)
theorem qND : CT X0 77 Z66.a Z66.u :=
 ct hX Tryz.f77 (by kernel_rfl) (fun _ _ h => h) (D27 hX) (oL (Z66.l4_ok hX) nL) (fun n v K => by kernel_rfl)
def D28 : CS X0 := oC (qND hX) (D27 hX)
abbrev Z79.a : List TS := [.c (.o (.dat 59 Y8)), .a [.o (.int .i64), .o (.int .i64), .o (.int .i64), .o (.int .i64), .o (.int .i64), .o (.dat 98 (.int .u64)), .o (.dat 2 (.int .i64))], .c (.o (.int .i64))]
def Z79.u (n : Nat) (v : VA Z79.a) (K : RES -> Prop) : Prop := Z79.c n v.1 v.2.1.1 v.2.1.2.1 v.2.1.2.2.1 v.2.1.2.2.2.1 v.2.1.2.2.2.2.1 v.2.1.2.2.2.2.2.1 v.2.1.2.2.2.2.2.2.1 v.2.2.1 (fun r0 => K ⟨.c (.bool r0), []⟩)
abbrev Z79.l2.s : ST := ⟨[(0, .c (.o (.dat 59 Y8))), (2, .c (.o (.int .i64))), (4, .c (.o (.pbox 4 0))), (7, .c (.o (.int .i64)))], [], [⟨4, 88, [.o (.int .i64), .o (.int .i64), .o (.int .i64), .o (.int .i64), .o (.int .i64), .o (.dat 98 (.int .u64)), .o (.dat 2 (.int .i64))], false, false⟩], [], []⟩
def Z79.l2.u (n : Nat) (v : Z79.l2.s.V) (K : X -> St -> Prop) : Prop := Z79.l2 n v.1.1 v.1.2.1 v.2.2.1.1 v.2.2.1.2.1 v.2.2.1.2.2.1 v.2.2.1.2.2.2.1 v.2.2.1.2.2.2.2.1 v.2.2.1.2.2.2.2.2.1 v.2.2.1.2.2.2.2.2.2.1 v.1.2.2.2.1 (fun y0 y1 y2 y3 y4 y5 y6 y7 => K (.exit 0) ⟨[(0, .c (.dat 59 Y8 y0)), (4, .c (.pbox 4 0))], [], [(4, ⟨88, [.int .i64 y1, .int .i64 y2, .int .i64 y3, .int .i64 y4, .int .i64 y5, .dat 98 (.int .u64) y6, .dat 2 (.int .i64) y7], false, false⟩)], [], []⟩) (fun y0 => K .ret ⟨[(6, .c (.bool y0))], [], [], [], []⟩)
abbrev Z79.q7.s : ST := ⟨[(0, .c (.o (.dat 59 Y8))), (4, .c (.o (.pbox 4 0))), (63, .c (.o .bool))], [], [⟨4, 88, [.o (.int .i64), .o (.int .i64), .o (.int .i64), .o (.int .i64), .o (.int .i64), .o (.dat 98 (.int .u64)), .o (.dat 2 (.int .i64))], false, false⟩], [], []⟩
def Z79.q7.u (n : Nat) (v : Z79.q7.s.V) (K : X -> St -> Prop) : Prop := Z79.q7 n v.1.1 v.1.2.2.1 v.2.2.1.1 v.2.2.1.2.1 v.2.2.1.2.2.1 v.2.2.1.2.2.2.1 v.2.2.1.2.2.2.2.1 v.2.2.1.2.2.2.2.2.1 v.2.2.1.2.2.2.2.2.2.1 (fun y0 => K .ret ⟨[(6, .c (.bool y0))], [], [], [], []⟩) (fun y0 y1 y2 y3 y4 y5 y6 y7 => K .normal ⟨[(0, .c (.dat 59 Y8 y0)), (4, .c (.pbox 4 0))], [], [(4, ⟨88, [.int .i64 y1, .int .i64 y2, .int .i64 y3, .int .i64 y4, .int .i64 y5, .dat 98 (.int .u64) y6, .dat 2 (.int .i64) y7], false, false⟩)], [], []⟩)
abbrev Z79.q8.s : ST := ⟨[(0, .c (.o (.dat 59 Y8))), (4, .c (.o (.pbox 4 0)))], [], [⟨4, 88, [.o (.int .i64), .o (.int .i64), .o (.int .i64), .o (.int .i64), .o (.int .i64), .o (.dat 98 (.int .u64)), .o (.dat 2 (.int .i64))], false, false⟩], [], []⟩
def Z79.q8.u (n : Nat) (v : Z79.q8.s.V) (K : X -> St -> Prop) : Prop := Z79.q8 n v.1.1 v.2.2.1.1 v.2.2.1.2.1 v.2.2.1.2.2.1 v.2.2.1.2.2.2.1 v.2.2.1.2.2.2.2.1 v.2.2.1.2.2.2.2.2.1 v.2.2.1.2.2.2.2.2.2.1 (fun y0 => K .ret ⟨[(6, .c (.bool y0))], [], [], [], []⟩)
theorem Z79.l2_ok : LT X0 63 2 Z79.l2.s Z79.l2.u :=
 lt hX Tryz.f63 (by kernel_rfl) (fun _ _ h => h) (D28 hX) nL (fun n v K => by kernel_rfl)
theorem Z79.q7_ok : LT X0 63 1000007 Z79.q7.s Z79.q7.u :=
 cu hX Tryz.f63 (by kernel_rfl) (fun _ _ h => h) (D28 hX) nL (fun n v K => by kernel_rfl)
theorem Z79.q8_ok : LT X0 63 1000008 Z79.q8.s Z79.q8.u :=
 cu hX Tryz.f63 (by kernel_rfl) (fun _ _ h => h) (D28 hX) nL (fun n v K => by kernel_rfl)
theorem qNq : CT X0 63 Z79.a Z79.u :=
 ct hX Tryz.f63 (by kernel_rfl) (fun _ _ h => h) (D28 hX) (oL (Z79.l2_ok hX) (oL (Z79.q7_ok hX) (oL (Z79.q8_ok hX) nL))) (fun n v K => by kernel_rfl)
def D29 : CS X0 := oC (qNq hX) (D28 hX)
abbrev Z82.a : List TS := [.c (.o (.dat 59 Y8)), .a [.o (.int .i64), .o (.int .i64), .o (.int .i64), .o (.int .i64), .o (.int .i64), .o (.dat 98 (.int .u64)), .o (.dat 2 (.int .i64))], .c (.o (.dat 2 (.int .i64)))]
def Z82.u (n : Nat) (v : VA Z82.a) (K : RES -> Prop) : Prop := Z82.c n v.1 v.2.1.1 v.2.1.2.1 v.2.1.2.2.1 v.2.1.2.2.2.1 v.2.1.2.2.2.2.1 v.2.1.2.2.2.2.2.1 v.2.1.2.2.2.2.2.2.1 v.2.2.1 (fun r0 => K ⟨.c (.int .i64 r0), []⟩)
abbrev Z82.l3.s : ST := ⟨[(0, .c (.o (.dat 59 Y8))), (2, .c (.o (.dat 2 (.int .i64)))), (4, .c (.o (.pbox 4 0))), (7, .c (.o (.int .i64))), (8, .c (.o (.int .i64)))], [], [⟨4, 88, [.o (.int .i64), .o (.int .i64), .o (.int .i64), .o (.int .i64), .o (.int .i64), .o (.dat 98 (.int .u64)), .o (.dat 2 (.int .i64))], false, false⟩], [], []⟩
def Z82.l3.u (n : Nat) (v : Z82.l3.s.V) (K : X -> St -> Prop) : Prop := Z82.l3 n v.1.1 v.1.2.1 v.2.2.1.1 v.2.2.1.2.1 v.2.2.1.2.2.1 v.2.2.1.2.2.2.1 v.2.2.1.2.2.2.2.1 v.2.2.1.2.2.2.2.2.1 v.2.2.1.2.2.2.2.2.2.1 v.1.2.2.2.1 v.1.2.2.2.2.1 (fun y0 y1 y2 y3 y4 y5 y6 y7 y8 => K (.exit 0) ⟨[(0, .c (.dat 59 Y8 y0)), (4, .c (.pbox 4 0)), (7, .c (.int .i64 y1))], [], [(4, ⟨88, [.int .i64 y2, .int .i64 y3, .int .i64 y4, .int .i64 y5, .int .i64 y6, .dat 98 (.int .u64) y7, .dat 2 (.int .i64) y8], false, false⟩)], [], []⟩)
theorem Z82.l3_ok : LT X0 64 3 Z82.l3.s Z82.l3.u :=
 lt hX Tryz.f64 (by kernel_rfl) (fun _ _ h => h) (D29 hX) nL (fun n v K => by kernel_rfl)
theorem qNn : CT X0 64 Z82.a Z82.u :=
 ct hX Tryz.f64 (by kernel_rfl) (fun _ _ h => h) (D29 hX) (oL (Z82.l3_ok hX) nL) (fun n v K => by kernel_rfl)
def D30 : CS X0 := oC (qNn hX) (D29 hX)
abbrev Z83.a : List TS := [.c (.o (.dat 59 Y8)), .a [.o (.dat 88 Y4)]]
def Z83.u (n : Nat) (v : VA Z83.a) (K : RES -> Prop) : Prop := Z83.c n v.1 v.2.1.1 (fun r0 => K ⟨.c (.row ⟨2, .int .i64, r0, 99, none, []⟩), []⟩)
abbrev Z83.l16.s : ST := ⟨[(0, .c (.o (.dat 59 Y8))), (3, .c (.o (.pbox 3 0))), (5, .c (.o (.own 384))), (6, .c (.o (.own 2112))), (7, .c (.o (.own 1056))), (8, .c (.o (.int .i64))), (10, .c (.o (.int .i64)))], [⟨384, 2, .int .i64, 99, false⟩, ⟨1056, 4, .bool, 99, false⟩, ⟨2112, 2, .int .i64, 99, false⟩], [⟨3, 54, [.o (.dat 88 Y4)], false, false⟩], [], []⟩
def Z83.l16.u (n : Nat) (v : Z83.l16.s.V) (K : X -> St -> Prop) : Prop := Z83.l16 n v.1.1 v.1.2.2.2.2.2.1 v.2.1.1 v.2.1.2.2.1 v.2.2.1.1 v.1.2.2.2.2.2.2.1 v.2.1.2.1 (fun y0 y1 y2 y3 y4 y5 => K (.exit 2) ⟨[(0, .c (.dat 59 Y8 y0)), (3, .c (.pbox 3 0)), (5, .c (.own 384)), (6, .c (.own 2112)), (7, .c (.own 1056)), (8, .c (.int .i64 y1))], [(384, ⟨2, .int .i64, y2, 99, none, []⟩), (1056, ⟨4, .bool, y3, 99, none, []⟩), (2112, ⟨2, .int .i64, y4, 99, none, []⟩)], [(3, ⟨54, [.dat 88 Y4 y5], false, false⟩)], [], []⟩)
abbrev Z83.l7.s : ST := ⟨[(0, .c (.o (.dat 59 Y8))), (3, .c (.o (.pbox 3 0))), (5, .c (.o (.own 384))), (6, .c (.o (.own 192))), (7, .c (.o (.own 1056))), (8, .c (.o (.int .i64)))], [⟨192, 2, .int .i64, 99, false⟩, ⟨384, 2, .int .i64, 99, false⟩, ⟨1056, 4, .bool, 99, false⟩], [⟨3, 54, [.o (.dat 88 Y4)], false, false⟩], [], []⟩
def Z83.l7.u (n : Nat) (v : Z83.l7.s.V) (K : X -> St -> Prop) : Prop := Z83.l7 n v.1.1 v.1.2.2.2.2.2.1 v.2.1.1 v.2.1.2.1 v.2.1.2.2.1 v.2.2.1.1 (fun y0 y1 y2 => K (.exit 0) ⟨[(5, .c (.own 384)), (6, .c (.own 192)), (7, .c (.own 1056))], [(192, ⟨2, .int .i64, y0, 99, none, []⟩), (384, ⟨2, .int .i64, y1, 99, none, []⟩), (1056, ⟨4, .bool, y2, 99, none, []⟩)], [], [], []⟩) (fun y0 => K .ret ⟨[(4, .c (.own 384))], [(384, ⟨2, .int .i64, y0, 99, none, []⟩)], [], [], []⟩)
abbrev Z83.l20.s : ST := ⟨[(5, .c (.o (.own 384))), (6, .c (.o (.own 192))), (7, .c (.o (.own 1056))), (11, .c (.o (.int .i64)))], [⟨192, 2, .int .i64, 99, false⟩, ⟨384, 2, .int .i64, 99, false⟩, ⟨1056, 4, .bool, 99, false⟩], [], [], []⟩
def Z83.l20.u (n : Nat) (v : Z83.l20.s.V) (K : X -> St -> Prop) : Prop := Z83.l20 n v.2.1.1 v.2.1.2.1 v.2.1.2.2.1 v.1.2.2.2.1 (fun y0 => K (.exit 4) ⟨[(6, .c (.own 192))], [(192, ⟨2, .int .i64, y0, 99, none, []⟩)], [], [], []⟩) (fun y0 => K .ret ⟨[(4, .c (.own 384))], [(384, ⟨2, .int .i64, y0, 99, none, []⟩)], [], [], []⟩)
theorem Z83.l16_ok : LT X0 50 16 Z83.l16.s Z83.l16.u :=
 lt hX Tryz.f50 (by kernel_rfl) (fun _ _ h => h) (D30 hX) nL (fun n v K => by kernel_rfl)
theorem Z83.l7_ok : LT X0 50 7 Z83.l7.s Z83.l7.u :=
 lt hX Tryz.f50 (by kernel_rfl) (fun _ _ h => h) (D30 hX) (oL (Z83.l16_ok hX) nL) (fun n v K => by kernel_rfl)
theorem Z83.l20_ok : LT X0 50 20 Z83.l20.s Z83.l20.u :=
 lt hX Tryz.f50 (by kernel_rfl) (fun _ _ h => h) (D30 hX) nL (fun n v K => by kernel_rfl)
theorem qNm : CT X0 50 Z83.a Z83.u :=
 ct hX Tryz.f50 (by kernel_rfl) (fun _ _ h => h) (D30 hX) (oL (Z83.l7_ok hX) (oL (Z83.l20_ok hX) nL)) (fun n v K => by kernel_rfl)
def D31 : CS X0 := oC (qNm hX) (D30 hX)
abbrev Z71.a : List TS := [.c (.o (.dat 59 Y8)), .a [.o (.dat 88 Y4)]]
def Z71.u (n : Nat) (v : VA Z71.a) (K : RES -> Prop) : Prop := Z71.c n v.1 v.2.1.1 (fun r0 => K ⟨.c (.int .i64 r0), []⟩)
theorem qNy : CT X0 37 Z71.a Z71.u :=
 ct hX Tryz.f37 (by kernel_rfl) (fun _ _ h => h) (D31 hX) nL (fun n v K => by kernel_rfl)
def D32 : CS X0 := oC (qNy hX) (D31 hX)
abbrev Z68.a : List TS := [.c (.o (.dat 59 Y8)), .c (.o (.dat 56 Y2))]
def Z68.u (n : Nat) (v : VA Z68.a) (K : RES -> Prop) : Prop := Z68.c n v.1 v.2.1 (fun r0 => K ⟨.c (.bool r0), []⟩)
abbrev Z68.l4.s : ST := ⟨[(0, .c (.o (.dat 59 Y8))), (1, .c (.o (.dat 56 Y2))), (5, .c (.o (.int .i64)))], [], [], [], []⟩
def Z68.l4.u (n : Nat) (v : Z68.l4.s.V) (K : X -> St -> Prop) : Prop := Z68.l4 n v.1.1 v.1.2.1 v.1.2.2.1 (K (.exit 0) ⟨[], [], [], [], []⟩) (fun y0 => K .ret ⟨[(4, .c (.bool y0))], [], [], [], []⟩)
theorem Z68.l4_ok : LT X0 19 4 Z68.l4.s Z68.l4.u :=
 lt hX Tryz.f19 (by kernel_rfl) (fun _ _ h => h) (D32 hX) nL (fun n v K => by kernel_rfl)
theorem qNB : CT X0 19 Z68.a Z68.u :=
 ct hX Tryz.f19 (by kernel_rfl) (fun _ _ h => h) (D32 hX) (oL (Z68.l4_ok hX) nL) (fun n v K => by kernel_rfl)
def D33 : CS X0 := oC (qNB hX) (D32 hX)
abbrev Z70.a : List TS := [.c (.o (.dat 59 Y8)), .a [.o (.dat 88 Y4)]]
def Z70.u (n : Nat) (v : VA Z70.a) (K : RES -> Prop) : Prop := Z70.c n v.1 v.2.1.1 (fun r0 => K ⟨.c (.row ⟨2, .int .i64, r0, 99, none, []⟩), []⟩)
abbrev Z70.l8.s : ST := ⟨[(0, .c (.o (.dat 59 Y8))), (3, .c (.o (.pbox 3 0))), (5, .c (.o (.own 160))), (6, .c (.o (.int .i64))), (7, .c (.o (.int .i64)))], [⟨160, 2, .int .i64, 99, false⟩], [⟨3, 54, [.o (.dat 88 Y4)], false, false⟩], [], []⟩
def Z70.l8.u (n : Nat) (v : Z70.l8.s.V) (K : X -> St -> Prop) : Prop := Z70.l8 n v.1.1 v.1.2.2.2.1 v.2.1.1 v.2.2.1.1 v.1.2.2.2.2.1 (fun y0 y1 y2 y3 => K (.exit 2) ⟨[(0, .c (.dat 59 Y8 y0)), (3, .c (.pbox 3 0)), (5, .c (.own 160)), (6, .c (.int .i64 y1))], [(160, ⟨2, .int .i64, y2, 99, none, []⟩)], [(3, ⟨54, [.dat 88 Y4 y3], false, false⟩)], [], []⟩)
abbrev Z70.l5.s : ST := ⟨[(0, .c (.o (.dat 59 Y8))), (3, .c (.o (.pbox 3 0))), (5, .c (.o (.own 160))), (6, .c (.o (.int .i64)))], [⟨160, 2, .int .i64, 99, false⟩], [⟨3, 54, [.o (.dat 88 Y4)], false, false⟩], [], []⟩
def Z70.l5.u (n : Nat) (v : Z70.l5.s.V) (K : X -> St -> Prop) : Prop := Z70.l5 n v.1.1 v.1.2.2.2.1 v.2.1.1 v.2.2.1.1 (fun y0 => K (.exit 0) ⟨[(5, .c (.own 160))], [(160, ⟨2, .int .i64, y0, 99, none, []⟩)], [], [], []⟩)
theorem Z70.l8_ok : LT X0 40 8 Z70.l8.s Z70.l8.u :=
 lt hX Tryz.f40 (by kernel_rfl) (fun _ _ h => h) (D33 hX) nL (fun n v K => by kernel_rfl)
theorem Z70.l5_ok : LT X0 40 5 Z70.l5.s Z70.l5.u :=
 lt hX Tryz.f40 (by kernel_rfl) (fun _ _ h => h) (D33 hX) (oL (Z70.l8_ok hX) nL) (fun n v K => by kernel_rfl)
theorem qNz : CT X0 40 Z70.a Z70.u :=
 ct hX Tryz.f40 (by kernel_rfl) (fun _ _ h => h) (D33 hX) (oL (Z70.l5_ok hX) nL) (fun n v K => by kernel_rfl)
def D34 : CS X0 := oC (qNz hX) (D33 hX)
abbrev Z76.a : List TS := [.c (.o (.dat 2 (.int .i64))), .c (.o (.int .i64))]
def Z76.u (n : Nat) (v : VA Z76.a) (K : RES -> Prop) : Prop := Z76.c n v.1 v.2.1 (fun r0 => K ⟨.c (.bool r0), []⟩)
abbrev Z76.l2.s : ST := ⟨[(0, .c (.o (.dat 2 (.int .i64)))), (1, .c (.o (.int .i64))), (5, .c (.o (.int .i64)))], [], [], [], []⟩
def Z76.l2.u (n : Nat) (v : Z76.l2.s.V) (K : X -> St -> Prop) : Prop := Z76.l2 n v.1.1 v.1.2.1 v.1.2.2.1 (K (.exit 0) ⟨[], [], [], [], []⟩) (fun y0 => K .ret ⟨[(4, .c (.bool y0))], [], [], [], []⟩)
theorem Z76.l2_ok : LT X0 41 2 Z76.l2.s Z76.l2.u :=
 lt hX Tryz.f41 (by kernel_rfl) (fun _ _ h => h) (D34 hX) nL (fun n v K => by kernel_rfl)
theorem qNt : CT X0 41 Z76.a Z76.u :=
 ct hX Tryz.f41 (by kernel_rfl) (fun _ _ h => h) (D34 hX) (oL (Z76.l2_ok hX) nL) (fun n v K => by kernel_rfl)
def D35 : CS X0 := oC (qNt hX) (D34 hX)
abbrev Z85.a : List TS := [.c (.o (.dat 2 (.int .i64)))]
def Z85.u (n : Nat) (v : VA Z85.a) (K : RES -> Prop) : Prop := Z85.c n v.1 (fun r0 => K ⟨.c (.row ⟨2, .int .i64, r0, 99, none, []⟩), []⟩)
abbrev Z85.l8.s : ST := ⟨[(0, .c (.o (.dat 2 (.int .i64)))), (3, .c (.o (.own 864))), (4, .c (.o (.int .i64))), (5, .c (.o (.int .i64)))], [⟨864, 2, .int .i64, 99, false⟩], [], [], []⟩
def Z85.l8.u (n : Nat) (v : Z85.l8.s.V) (K : X -> St -> Prop) : Prop := Z85.l8 n v.1.1 v.1.2.2.1 v.1.2.2.2.1 v.2.1.1 (fun y0 y1 y2 y3 => K (.exit 2) ⟨[(0, .c (.dat 2 (.int .i64) y0)), (3, .c (.own 864)), (4, .c (.int .i64 y1)), (5, .c (.int .i64 y2))], [(864, ⟨2, .int .i64, y3, 99, none, []⟩)], [], [], []⟩)
abbrev Z85.l3.s : ST := ⟨[(0, .c (.o (.dat 2 (.int .i64)))), (3, .c (.o (.own 96))), (4, .c (.o (.int .i64)))], [⟨96, 2, .int .i64, 99, false⟩], [], [], []⟩
def Z85.l3.u (n : Nat) (v : Z85.l3.s.V) (K : X -> St -> Prop) : Prop := Z85.l3 n v.1.1 v.1.2.2.1 v.2.1.1 (fun y0 => K (.exit 0) ⟨[(3, .c (.own 96))], [(96, ⟨2, .int .i64, y0, 99, none, []⟩)], [], [], []⟩)
theorem Z85.l8_ok : LT X0 39 8 Z85.l8.s Z85.l8.u :=
 lt hX Tryz.f39 (by kernel_rfl) (fun _ _ h => h) (D35 hX) nL (fun n v K => by kernel_rfl)
theorem Z85.l3_ok : LT X0 39 3 Z85.l3.s Z85.l3.u :=
 lt hX Tryz.f39 (by kernel_rfl) (fun _ _ h => h) (D35 hX) (oL (Z85.l8_ok hX) nL) (fun n v K => by kernel_rfl)
theorem qNk : CT X0 39 Z85.a Z85.u :=
 ct hX Tryz.f39 (by kernel_rfl) (fun _ _ h => h) (D35 hX) (oL (Z85.l3_ok hX) nL) (fun n v K => by kernel_rfl)
def D36 : CS X0 := oC (qNk hX) (D35 hX)
abbrev Z73.a : List TS := [.c (.o (.dat 59 Y8)), .a [.o (.int .i64), .o .bool, .o (.dat 88 Y4), .o (.dat 88 Y4)]]
def Z73.u (n : Nat) (v : VA Z73.a) (K : RES -> Prop) : Prop := Z73.c n v.1 v.2.1.1 v.2.1.2.1 v.2.1.2.2.1 v.2.1.2.2.2.1 (fun r0 => K ⟨.c (.row ⟨2, .int .i64, r0, 99, none, []⟩), []⟩)
theorem qNw : CT X0 20 Z73.a Z73.u :=
 ct hX Tryz.f20 (by kernel_rfl) (fun _ _ h => h) (D36 hX) nL (fun n v K => by kernel_rfl)
def D37 : CS X0 := oC (qNw hX) (D36 hX)
abbrev Z72.a : List TS := [.c (.o (.dat 2 (.int .i64))), .c (.o (.dat 2 (.int .i64)))]
def Z72.u (n : Nat) (v : VA Z72.a) (K : RES -> Prop) : Prop := Z72.c n v.1 v.2.1 (fun r0 => K ⟨.c (.bool r0), []⟩)
abbrev Z72.l2.s : ST := ⟨[(0, .c (.o (.dat 2 (.int .i64)))), (1, .c (.o (.dat 2 (.int .i64)))), (5, .c (.o (.int .i64)))], [], [], [], []⟩
def Z72.l2.u (n : Nat) (v : Z72.l2.s.V) (K : X -> St -> Prop) : Prop := Z72.l2 n v.1.1 v.1.2.1 v.1.2.2.1 (K (.exit 0) ⟨[], [], [], [], []⟩) (fun y0 => K .ret ⟨[(4, .c (.bool y0))], [], [], [], []⟩)
theorem Z72.l2_ok : LT X0 21 2 Z72.l2.s Z72.l2.u :=
 lt hX Tryz.f21 (by kernel_rfl) (fun _ _ h => h) (D37 hX) nL (fun n v K => by kernel_rfl)
theorem qNx : CT X0 21 Z72.a Z72.u :=
 ct hX Tryz.f21 (by kernel_rfl) (fun _ _ h => h) (D37 hX) (oL (Z72.l2_ok hX) nL) (fun n v K => by kernel_rfl)
def D38 : CS X0 := oC (qNx hX) (D37 hX)
abbrev Z84.a : List TS := [.c (.o (.row 2 (.int .i64) 99)), .c (.o (.int .i64)), .c (.o (.int .i64))]
def Z84.u (n : Nat) (v : VA Z84.a) (K : RES -> Prop) : Prop := Z84.c n v.1 v.2.1 v.2.2.1 (fun r0 => K ⟨.tup [], [[.row ⟨2, .int .i64, r0, 99, none, []⟩]]⟩)
abbrev Z84.l3.s : ST := ⟨[(0, .c (.o (.own 0))), (6, .c (.o (.int .i64))), (7, .c (.o (.int .i64))), (8, .c (.o (.int .i64)))], [⟨0, 2, .int .i64, 99, false⟩], [], [0], []⟩
def Z84.l3.u (n : Nat) (v : Z84.l3.s.V) (K : X -> St -> Prop) : Prop := Z84.l3 n v.1.2.1 v.1.2.2.1 v.1.2.2.2.1 v.2.1.1 (fun y0 => K (.exit 0) ⟨[], [(0, ⟨2, .int .i64, y0, 99, none, []⟩)], [], [0], []⟩)
theorem Z84.l3_ok : LT X0 22 3 Z84.l3.s Z84.l3.u :=
 lt hX Tryz.f22 (by kernel_rfl) (fun _ _ h => h) (D38 hX) nL (fun n v K => by kernel_rfl)
theorem qNl : CT X0 22 Z84.a Z84.u :=
 ct hX Tryz.f22 (by kernel_rfl) (fun _ _ h => h) (D38 hX) (oL (Z84.l3_ok hX) nL) (fun n v K => by kernel_rfl)
def D39 : CS X0 := oC (qNl hX) (D38 hX)
abbrev Z69.a : List TS := [.c (.o (.dat 59 Y8)), .c (.o (.dat 56 Y2))]
def Z69.u (n : Nat) (v : VA Z69.a) (K : RES -> Prop) : Prop := Z69.c n v.1 v.2.1 (fun r0 r1 => K ⟨.tup [.c (.row ⟨50, .sl 2 (.int .i64), r0, 99, none, []⟩), .c (.bool r1)], []⟩)
abbrev Z69.l7.s : ST := ⟨[(0, .c (.o (.dat 59 Y8))), (1, .c (.o (.dat 56 Y2))), (6, .c (.o (.own 480))), (7, .c (.o (.own 224))), (8, .c (.o (.own 256))), (9, .c (.o (.int .i64)))], [⟨224, 2, .int .i64, 99, false⟩, ⟨256, 50, .sl 2 (.int .i64), 99, false⟩, ⟨480, 50, .sl 2 (.int .i64), 99, false⟩], [], [], []⟩
def Z69.l7.u (n : Nat) (v : Z69.l7.s.V) (K : X -> St -> Prop) : Prop := Z69.l7 n v.1.1 v.1.2.1 v.2.1.2.2.1 v.1.2.2.2.2.2.1 v.2.1.1 v.2.1.2.1 (fun y0 y1 y2 y3 => K (.exit 0) ⟨[(1, .c (.dat 56 Y2 y0)), (6, .c (.own 480)), (7, .c (.own 224)), (8, .c (.own 256))], [(224, ⟨2, .int .i64, y1, 99, none, []⟩), (256, ⟨50, .sl 2 (.int .i64), y2, 99, none, []⟩), (480, ⟨50, .sl 2 (.int .i64), y3, 99, none, []⟩)], [], [], []⟩)
abbrev Z69.l15.s : ST := ⟨[(1, .c (.o (.dat 56 Y2))), (6, .c (.o (.own 480))), (7, .c (.o (.own 224))), (8, .c (.o (.own 256))), (10, .c (.o (.int .i64))), (11, .c (.o (.int .i64)))], [⟨224, 2, .int .i64, 99, false⟩, ⟨256, 50, .sl 2 (.int .i64), 99, false⟩, ⟨480, 50, .sl 2 (.int .i64), 99, false⟩], [], [], []⟩
def Z69.l15.u (n : Nat) (v : Z69.l15.s.V) (K : X -> St -> Prop) : Prop := Z69.l15 n v.1.1 v.1.2.2.2.2.1 v.2.1.2.1 v.2.1.2.2.1 v.1.2.2.2.2.2.1 v.2.1.1 (fun y0 y1 y2 y3 y4 => K (.exit 4) ⟨[(1, .c (.dat 56 Y2 y0)), (6, .c (.own 480)), (7, .c (.own 224)), (8, .c (.own 256)), (10, .c (.int .i64 y1))], [(224, ⟨2, .int .i64, y2, 99, none, []⟩), (256, ⟨50, .sl 2 (.int .i64), y3, 99, none, []⟩), (480, ⟨50, .sl 2 (.int .i64), y4, 99, none, []⟩)], [], [], []⟩)
abbrev Z69.l12.s : ST := ⟨[(1, .c (.o (.dat 56 Y2))), (6, .c (.o (.own 480))), (7, .c (.o (.own 224))), (8, .c (.o (.own 256))), (10, .c (.o (.int .i64)))], [⟨224, 2, .int .i64, 99, false⟩, ⟨256, 50, .sl 2 (.int .i64), 99, false⟩, ⟨480, 50, .sl 2 (.int .i64), 99, false⟩], [], [], []⟩
def Z69.l12.u (n : Nat) (v : Z69.l12.s.V) (K : X -> St -> Prop) : Prop := Z69.l12 n v.1.1 v.1.2.2.2.2.1 v.2.1.1 v.2.1.2.1 v.2.1.2.2.1 (fun y0 y1 y2 => K (.exit 2) ⟨[(1, .c (.dat 56 Y2 y0)), (6, .c (.own 480)), (7, .c (.own 224))], [(224, ⟨2, .int .i64, y1, 99, none, []⟩), (480, ⟨50, .sl 2 (.int .i64), y2, 99, none, []⟩)], [], [], []⟩)
abbrev Z69.l24.s : ST := ⟨[(1, .c (.o (.dat 56 Y2))), (6, .c (.o (.own 192))), (7, .c (.o (.own 224))), (12, .c (.o (.int .i64))), (13, .c (.o (.own 416))), (14, .c (.o (.int .i64)))], [⟨192, 50, .sl 2 (.int .i64), 99, false⟩, ⟨224, 2, .int .i64, 99, false⟩, ⟨416, 2, .int .i64, 99, false⟩], [], [], []⟩
def Z69.l24.u (n : Nat) (v : Z69.l24.s.V) (K : X -> St -> Prop) : Prop := Z69.l24 n v.1.1 v.1.2.2.2.1 v.2.1.1 v.2.1.2.1 v.1.2.2.2.2.2.1 v.2.1.2.2.1 (fun y0 y1 y2 y3 y4 => K (.exit 8) ⟨[(1, .c (.dat 56 Y2 y0)), (6, .c (.own 192)), (7, .c (.own 224)), (12, .c (.int .i64 y1)), (13, .c (.own 416))], [(192, ⟨50, .sl 2 (.int .i64), y2, 99, none, []⟩), (224, ⟨2, .int .i64, y3, 99, none, []⟩), (416, ⟨2, .int .i64, y4, 99, none, []⟩)], [], [], []⟩)
abbrev Z69.l20.s : ST := ⟨[(1, .c (.o (.dat 56 Y2))), (6, .c (.o (.own 192))), (7, .c (.o (.own 224))), (12, .c (.o (.int .i64)))], [⟨192, 50, .sl 2 (.int .i64), 99, false⟩, ⟨224, 2, .int .i64, 99, false⟩], [], [], []⟩
def Z69.l20.u (n : Nat) (v : Z69.l20.s.V) (K : X -> St -> Prop) : Prop := Z69.l20 n v.1.1 v.1.2.2.2.1 v.2.1.1 v.2.1.2.1 (fun y0 => K (.exit 6) ⟨[(6, .c (.own 192))], [(192, ⟨50, .sl 2 (.int .i64), y0, 99, none, []⟩)], [], [], []⟩)
theorem Z69.l7_ok : LT X0 6 7 Z69.l7.s Z69.l7.u :=
 lt hX Tryz.f6 (by kernel_rfl) (fun _ _ h => h) (D39 hX) nL (fun n v K => by kernel_rfl)
theorem Z69.l15_ok : LT X0 6 15 Z69.l15.s Z69.l15.u :=
 lt hX Tryz.f6 (by kernel_rfl) (fun _ _ h => h) (D39 hX) nL (fun n v K => by kernel_rfl)
theorem Z69.l12_ok : LT X0 6 12 Z69.l12.s Z69.l12.u :=
 lt hX Tryz.f6 (by kernel_rfl) (fun _ _ h => h) (D39 hX) (oL (Z69.l15_ok hX) nL) (fun n v K => by kernel_rfl)
theorem Z69.l24_ok : LT X0 6 24 Z69.l24.s Z69.l24.u :=
 lt hX Tryz.f6 (by kernel_rfl) (fun _ _ h => h) (D39 hX) nL (fun n v K => by kernel_rfl)
theorem Z69.l20_ok : LT X0 6 20 Z69.l20.s Z69.l20.u :=
 lt hX Tryz.f6 (by kernel_rfl) (fun _ _ h => h) (D39 hX) (oL (Z69.l24_ok hX) nL) (fun n v K => by kernel_rfl)
theorem qNA : CT X0 6 Z69.a Z69.u :=
 ct hX Tryz.f6 (by kernel_rfl) (fun _ _ h => h) (D39 hX) (oL (Z69.l7_ok hX) (oL (Z69.l12_ok hX) (oL (Z69.l20_ok hX) nL))) (fun n v K => by kernel_rfl)
def D40 : CS X0 := oC (qNA hX) (D39 hX)
abbrev Z11.a : List TS := [.c (.o .str)]
def Z11.u (n : Nat) (v : VA Z11.a) (K : RES -> Prop) : Prop := Z11.c n v.1 (fun r0 => K ⟨.c (.bool r0), []⟩)
abbrev Z11.l4.s : ST := ⟨[(0, .c (.o .str)), (3, .c (.o (.int .i64)))], [], [], [], []⟩
def Z11.l4.u (n : Nat) (v : Z11.l4.s.V) (K : X -> St -> Prop) : Prop := Z11.l4 n v.1.1 v.1.2.1 (K (.exit 0) ⟨[], [], [], [], []⟩) (fun y0 => K .ret ⟨[(2, .c (.bool y0))], [], [], [], []⟩)
theorem Z11.l4_ok : LT X0 52 4 Z11.l4.s Z11.l4.u :=
 lt hX Tryz.f52 (by kernel_rfl) (fun _ _ h => h) (D40 hX) nL (fun n v K => by kernel_rfl)
theorem qPb : CT X0 52 Z11.a Z11.u :=
 ct hX Tryz.f52 (by kernel_rfl) (fun _ _ h => h) (D40 hX) (oL (Z11.l4_ok hX) nL) (fun n v K => by kernel_rfl)
def D41 : CS X0 := oC (qPb hX) (D40 hX)
abbrev Z9.a : List TS := [.c (.o (.int .i64)), .c (.o (.int .i64)), .c (.o (.int .i64))]
def Z9.u (n : Nat) (v : VA Z9.a) (K : RES -> Prop) : Prop := Z9.c n v.1 v.2.1 v.2.2.1 (fun r0 => K ⟨.c (.bool r0), []⟩)
theorem qPz : CT X0 53 Z9.a Z9.u :=
 ct hX Tryz.f53 (by kernel_rfl) (fun _ _ h => h) (D41 hX) nL (fun n v K => by kernel_rfl)
def D42 : CS X0 := oC (qPz hX) (D41 hX)
abbrev Z7.a : List TS := [.a [.o .str, .o (.int .i64)], .c (.o (.pdat 9 .str 0))]
def Z7.u (n : Nat) (v : VA Z7.a) (K : RES -> Prop) : Prop := Z7.c n v.1.1 v.1.2.1 v.2.1 (fun r0 => K ⟨.c (.bool r0), []⟩)
theorem qPB : CT X0 67 Z7.a Z7.u :=
 ct hX Tryz.f67 (by kernel_rfl) (fun _ _ h => h) (D42 hX) nL (fun n v K => by kernel_rfl)
def D43 : CS X0 := oC (qPB hX) (D42 hX)
abbrev Z63.a : List TS := [.c (.o (.dat 59 Y8)), .c (.fn 67 [(false, 1)] 0 [.pdat 9 .str 0])]
def Z63.u (n : Nat) (v : VA Z63.a) (K : RES -> Prop) : Prop := Z63.c n v.1 v.2.1.1 (fun r0 => K ⟨.c (.int .i64 r0), []⟩)
abbrev Z63.l2.s : ST := ⟨[(0, .c (.o (.dat 59 Y8))), (1, .c (.fn 67 [(false, 1)] 0 [.pdat 9 .str 0])), (7, .c (.o (.int .i64))), (8, .c (.o (.int .i64)))], [], [], [], []⟩
def Z63.l2.u (n : Nat) (v : Z63.l2.s.V) (K : X -> St -> Prop) : Prop := Z63.l2 n v.1.1 v.1.2.1.1 v.1.2.2.1 v.1.2.2.2.1 (K (.exit 0) ⟨[], [], [], [], []⟩) (fun y0 => K .ret ⟨[(4, .c (.int .i64 y0))], [], [], [], []⟩)
theorem Z63.l2_ok : LT X0 66 2 Z63.l2.s Z63.l2.u :=
 lt hX Tryz.f66 (by kernel_rfl) (fun _ _ h => h) (D43 hX) nL (fun n v K => by kernel_rfl)
theorem qNH : CT X0 66 Z63.a Z63.u :=
 ct hX Tryz.f66 (by kernel_rfl) (fun _ _ h => h) (D43 hX) (oL (Z63.l2_ok hX) nL) (fun n v K => by kernel_rfl)
def D44 : CS X0 := oC (qNH hX) (D43 hX)
abbrev Z6.a : List TS := [.c (.o (.dat 59 Y8)), .c (.o .str)]
def Z6.u (n : Nat) (v : VA Z6.a) (K : RES -> Prop) : Prop := Z6.c n v.1 v.2.1 (fun r0 => K ⟨.c (.int .i64 r0), []⟩)
theorem qPC : CT X0 54 Z6.a Z6.u :=
 ct hX Tryz.f54 (by kernel_rfl) (fun _ _ h => h) (D44 hX) nL (fun n v K => by kernel_rfl)
def D45 : CS X0 := oC (qPC hX) (D44 hX)
abbrev Z1.a : List TS := [.c (.o (.dat 59 Y8))]
def Z1.u (n : Nat) (v : VA Z1.a) (K : RES -> Prop) : Prop := Z1.c n v.1 (fun r0 => K ⟨.c (.bool r0), []⟩)
abbrev Z1.l5.s : ST := ⟨[(0, .c (.o (.dat 59 Y8))), (3, .c (.o (.int .i64))), (9, .c (.o (.dat 59 Y8))), (10, .c (.o (.int .i64))), (11, .c (.o (.int .i64)))], [], [], [], []⟩
def Z1.l5.u (n : Nat) (v : Z1.l5.s.V) (K : X -> St -> Prop) : Prop := Z1.l5 n v.1.1 v.1.2.2.1 v.1.2.2.2.1 v.1.2.1 v.1.2.2.2.2.1 (fun y0 => K (.exit 0) ⟨[(3, .c (.int .i64 y0))], [], [], [], []⟩) (fun y0 => K .ret ⟨[(2, .c (.bool y0))], [], [], [], []⟩)
theorem Z1.l5_ok : LT X0 43 5 Z1.l5.s Z1.l5.u :=
 lt hX Tryz.f43 (by kernel_rfl) (fun _ _ h => h) (D45 hX) nL (fun n v K => by kernel_rfl)
theorem qPH : CT X0 43 Z1.a Z1.u :=
 ct hX Tryz.f43 (by kernel_rfl) (fun _ _ h => h) (D45 hX) (oL (Z1.l5_ok hX) nL) (fun n v K => by kernel_rfl)
def D46 : CS X0 := oC (qPH hX) (D45 hX)
abbrev Z17.a : List TS := [.c (.o (.int .i64))]
def Z17.u (n : Nat) (v : VA Z17.a) (K : RES -> Prop) : Prop := Z17.c n v.1 (fun r0 => K ⟨.c (.int .i64 r0), []⟩)
theorem qO5 : CT X0 107 Z17.a Z17.u :=
 ct hX Tryz.f107 (by kernel_rfl) (fun _ _ h => h) (D46 hX) nL (fun n v K => by kernel_rfl)
def D47 : CS X0 := oC (qO5 hX) (D46 hX)
abbrev Z0.a : List TS := [.a [.o (.int .i64), .o (.dat 98 (.int .u64))]]
def Z0.u (n : Nat) (v : VA Z0.a) (K : RES -> Prop) : Prop := Z0.c n v.1.1 v.1.2.1 (fun r0 => K ⟨.c (.bool r0), []⟩)
theorem qPI : CT X0 98 Z0.a Z0.u :=
 ct hX Tryz.f98 (by kernel_rfl) (fun _ _ h => h) (D47 hX) nL (fun n v K => by kernel_rfl)
def D48 : CS X0 := oC (qPI hX) (D47 hX)
abbrev Z5.a : List TS := [.c (.o (.pdat 88 Y4 0)), .c (.o (.dat 59 Y8)), .c (.o (.dat 2 (.int .i64)))]
def Z5.u (n : Nat) (v : VA Z5.a) (K : RES -> Prop) : Prop := Z5.c n v.1 v.2.1 v.2.2.1 (fun r0 => K ⟨.c (.int .i64 r0), []⟩)
abbrev Z5.l11.s : ST := ⟨[(8, .c (.o (.int .i64))), (80, .c (.o (.dat 2 (.int .i64)))), (81, .c (.o (.int .i64))), (82, .c (.o (.int .i64)))], [], [], [], []⟩
def Z5.l11.u (n : Nat) (v : Z5.l11.s.V) (K : X -> St -> Prop) : Prop := Z5.l11 n v.1.2.1 v.1.2.2.1 v.1.1 v.1.2.2.2.1 (fun y0 => K (.exit 1) ⟨[(8, .c (.int .i64 y0))], [], [], [], []⟩)
abbrev Z5.q21.s : ST := ⟨[(0, .c (.o (.pdat 88 Y4 0))), (7, .c (.o (.int .i64))), (137, .c (.o .bool))], [], [], [], []⟩
def Z5.q21.u (n : Nat) (v : Z5.q21.s.V) (K : X -> St -> Prop) : Prop := Z5.q21 n v.1.1 v.1.2.1 v.1.2.2.1 (fun y0 => K .ret ⟨[(6, .c (.int .i64 y0))], [], [], [], []⟩) (K .normal ⟨[], [], [], [], []⟩)
abbrev Z5.q9.s : ST := ⟨[(0, .c (.o (.pdat 88 Y4 0))), (2, .c (.o (.dat 2 (.int .i64)))), (7, .c (.o (.int .i64))), (69, .c (.o .bool))], [], [], [], []⟩
def Z5.q9.u (n : Nat) (v : Z5.q9.s.V) (K : X -> St -> Prop) : Prop := Z5.q9 n v.1.1 v.1.2.1 v.1.2.2.1 v.1.2.2.2.1 (fun y0 => K .ret ⟨[(6, .c (.int .i64 y0))], [], [], [], []⟩) (K .normal ⟨[], [], [], [], []⟩)
abbrev Z5.q5.s : ST := ⟨[(0, .c (.o (.pdat 88 Y4 0))), (1, .c (.o (.dat 59 Y8))), (2, .c (.o (.dat 2 (.int .i64)))), (7, .c (.o (.int .i64))), (17, .c (.o .bool))], [], [], [], []⟩
def Z5.q5.u (n : Nat) (v : Z5.q5.s.V) (K : X -> St -> Prop) : Prop := Z5.q5 n v.1.1 v.1.2.1 v.1.2.2.1 v.1.2.2.2.1 v.1.2.2.2.2.1 (fun y0 => K .ret ⟨[(6, .c (.int .i64 y0))], [], [], [], []⟩) (K .normal ⟨[], [], [], [], []⟩)
theorem Z5.l11_ok : LT X0 80 11 Z5.l11.s Z5.l11.u :=
 lt hX Tryz.f80 (by kernel_rfl) (fun _ _ h => h) (D48 hX) nL (fun n v K => by kernel_rfl)
theorem Z5.q21_ok : LT X0 80 1000021 Z5.q21.s Z5.q21.u :=
 cu hX Tryz.f80 (by kernel_rfl) (fun _ _ h => h) (D48 hX) nL (fun n v K => by kernel_rfl)
theorem Z5.q9_ok : LT X0 80 1000009 Z5.q9.s Z5.q9.u :=
 cu hX Tryz.f80 (by kernel_rfl) (fun _ _ h => h) (D48 hX) (oL (Z5.l11_ok hX) (oL (Z5.q21_ok hX) nL)) (fun n v K => by kernel_rfl)
theorem Z5.q5_ok : LT X0 80 1000005 Z5.q5.s Z5.q5.u :=
 cu hX Tryz.f80 (by kernel_rfl) (fun _ _ h => h) (D48 hX) (oL (Z5.q9_ok hX) nL) (fun n v K => by kernel_rfl)
theorem qPD : CT X0 80 Z5.a Z5.u :=
 ct hX Tryz.f80 (by kernel_rfl) (fun _ _ h => h) (D48 hX) (oL (Z5.q5_ok hX) nL) (fun n v K => by kernel_rfl)
def D49 : CS X0 := oC (qPD hX) (D48 hX)
end
end Go.Vsi
end

section
namespace Go.Vsi
open Go.Proofs
section
variable (hX : CallF.Mono X0)
include hX
abbrev Z4.a : List TS := [.c (.o (.pdat 88 Y4 0))]
def Z4.u (n : Nat) (v : VA Z4.a) (K : RES -> Prop) : Prop := Z4.c n v.1 (fun r0 => K ⟨.c (.bool r0), []⟩)
abbrev Z4.q3.s : ST := ⟨[(0, .c (.o (.pdat 88 Y4 0))), (52, .c (.o .bool))], [], [], [], []⟩
def Z4.q3.u (n : Nat) (v : Z4.q3.s.V) (K : X -> St -> Prop) : Prop := Z4.q3 n v.1.1 v.1.2.1 (fun y0 => K .ret ⟨[(2, .c (.bool y0))], [], [], [], []⟩) (fun y0 => K .normal ⟨[(0, .c (.pdat 88 Y4 y0 0))], [], [], [], []⟩)
abbrev Z4.q2.s : ST := ⟨[(0, .c (.o (.pdat 88 Y4 0))), (3, .c (.o .bool))], [], [], [], []⟩
def Z4.q2.u (n : Nat) (v : Z4.q2.s.V) (K : X -> St -> Prop) : Prop := Z4.q2 n v.1.1 v.1.2.1 (fun y0 => K .ret ⟨[(2, .c (.bool y0))], [], [], [], []⟩)
theorem Z4.q3_ok : LT X0 81 1000003 Z4.q3.s Z4.q3.u :=
 cu hX Tryz.f81 (by kernel_rfl) (fun _ _ h => h) (D49 hX) nL (fun n v K => by kernel_rfl)
theorem Z4.q2_ok : LT X0 81 1000002 Z4.q2.s Z4.q2.u :=
 cu hX Tryz.f81 (by kernel_rfl) (fun _ _ h => h) (D49 hX) (oL (Z4.q3_ok hX) nL) (fun n v K => by kernel_rfl)
theorem qPE : CT X0 81 Z4.a Z4.u :=
 ct hX Tryz.f81 (by kernel_rfl) (fun _ _ h => h) (D49 hX) (oL (Z4.q2_ok hX) nL) (fun n v K => by kernel_rfl)
def D50 : CS X0 := oC (qPE hX) (D49 hX)
abbrev Z64.a : List TS := [.c (.o (.dat 4 .bool)), .c (.o .bool)]
def Z64.u (n : Nat) (v : VA Z64.a) (K : RES -> Prop) : Prop := Z64.c n v.1 v.2.1 (fun r0 => K ⟨.c (.int .i64 r0), []⟩)
abbrev Z64.l2.s : ST := ⟨[(0, .c (.o (.dat 4 .bool))), (1, .c (.o .bool)), (7, .c (.o (.int .i64))), (8, .c (.o (.int .i64)))], [], [], [], []⟩
def Z64.l2.u (n : Nat) (v : Z64.l2.s.V) (K : X -> St -> Prop) : Prop := Z64.l2 n v.1.1 v.1.2.1 v.1.2.2.1 v.1.2.2.2.1 (K (.exit 0) ⟨[], [], [], [], []⟩) (fun y0 => K .ret ⟨[(4, .c (.int .i64 y0))], [], [], [], []⟩)
theorem Z64.l2_ok : LT X0 99 2 Z64.l2.s Z64.l2.u :=
 lt hX Tryz.f99 (by kernel_rfl) (fun _ _ h => h) (D50 hX) nL (fun n v K => by kernel_rfl)
theorem qNF : CT X0 99 Z64.a Z64.u :=
 ct hX Tryz.f99 (by kernel_rfl) (fun _ _ h => h) (D50 hX) (oL (Z64.l2_ok hX) nL) (fun n v K => by kernel_rfl)
def D51 : CS X0 := oC (qNF hX) (D50 hX)
abbrev Z61.a : List TS := [.c (.o (.dat 4 .bool)), .c (.o .bool)]
def Z61.u (n : Nat) (v : VA Z61.a) (K : RES -> Prop) : Prop := Z61.c n v.1 v.2.1 (fun r0 => K ⟨.c (.bool r0), []⟩)
theorem qNK : CT X0 82 Z61.a Z61.u :=
 ct hX Tryz.f82 (by kernel_rfl) (fun _ _ h => h) (D51 hX) nL (fun n v K => by kernel_rfl)
def D52 : CS X0 := oC (qNK hX) (D51 hX)
abbrev Z16.a : List TS := [.c (.o (.dat 59 Y8)), .a [.o (.dat 88 Y4)]]
def Z16.u (n : Nat) (v : VA Z16.a) (K : RES -> Prop) : Prop := Z16.c n v.1 v.2.1.1 (fun r0 r1 => K ⟨.tup [.c (.row ⟨2, .int .i64, r0, 99, none, []⟩), .c (.bool r1)], []⟩)
abbrev Z16.l13.s : ST := ⟨[(0, .c (.o (.dat 59 Y8))), (3, .c (.o (.pbox 3 0))), (6, .c (.o (.int .i64))), (7, .c (.o (.own 768))), (8, .c (.o (.own 832))), (9, .c (.o (.int .i64))), (10, .c (.o (.pdat 88 Y4 0))), (11, .c (.o (.own 1536))), (29, .c (.o (.int .i64))), (30, .c (.o (.int .i64))), (52, .c (.o (.dat 2 (.int .i64)))), (53, .c (.o (.int .i64))), (54, .c (.o (.int .i64)))], [⟨768, 2, .int .i64, 99, false⟩, ⟨832, 4, .bool, 99, false⟩, ⟨1536, 2, .int .i64, 99, false⟩], [⟨3, 54, [.o (.dat 88 Y4)], false, false⟩], [], []⟩
def Z16.l13.u (n : Nat) (v : Z16.l13.s.V) (K : X -> St -> Prop) : Prop := Z16.l13 n v.1.1 v.1.2.2.1 v.1.2.2.2.2.2.1 v.1.2.2.2.2.2.2.1 v.1.2.2.2.2.2.2.2.2.1 v.1.2.2.2.2.2.2.2.2.2.1 v.1.2.2.2.2.2.2.2.2.2.2.1 v.1.2.2.2.2.2.2.2.2.2.2.2.1 v.2.1.1 v.2.2.1.1 v.1.2.2.2.2.2.2.2.2.2.2.2.2.1 v.2.1.2.1 v.2.1.2.2.1 (fun y0 y1 y2 y3 y4 y5 y6 y7 y8 y9 => K (.exit 2) ⟨[(0, .c (.dat 59 Y8 y0)), (3, .c (.pbox 3 0)), (6, .c (.int .i64 y1)), (7, .c (.own 768)), (8, .c (.own 832)), (9, .c (.int .i64 y2)), (10, .c (.pdat 88 Y4 y3 0)), (11, .c (.own 1536)), (29, .c (.int .i64 y4)), (30, .c (.int .i64 y5))], [(768, ⟨2, .int .i64, y6, 99, none, []⟩), (832, ⟨4, .bool, y7, 99, none, []⟩), (1536, ⟨2, .int .i64, y8, 99, none, []⟩)], [(3, ⟨54, [.dat 88 Y4 y9], false, false⟩)], [], []⟩) (fun y0 y1 => K .ret ⟨[(4, .c (.own 128)), (5, .c (.bool y0))], [(128, ⟨2, .int .i64, y1, 99, none, []⟩)], [], [], []⟩)
abbrev Z16.l6.s : ST := ⟨[(0, .c (.o (.dat 59 Y8))), (3, .c (.o (.pbox 3 0))), (6, .c (.o (.int .i64))), (7, .c (.o (.own 768))), (8, .c (.o (.own 832))), (29, .c (.o (.int .i64))), (30, .c (.o (.int .i64)))], [⟨768, 2, .int .i64, 99, false⟩, ⟨832, 4, .bool, 99, false⟩], [⟨3, 54, [.o (.dat 88 Y4)], false, false⟩], [], []⟩
def Z16.l6.u (n : Nat) (v : Z16.l6.s.V) (K : X -> St -> Prop) : Prop := Z16.l6 n v.1.1 v.1.2.2.1 v.1.2.2.2.2.2.1 v.1.2.2.2.2.2.2.1 v.2.1.1 v.2.1.2.1 v.2.2.1.1 (fun y0 y1 y2 => K (.exit 0) ⟨[(6, .c (.int .i64 y0)), (7, .c (.own 768)), (8, .c (.own 832))], [(768, ⟨2, .int .i64, y1, 99, none, []⟩), (832, ⟨4, .bool, y2, 99, none, []⟩)], [], [], []⟩) (fun y0 y1 => K .ret ⟨[(4, .c (.own 128)), (5, .c (.bool y0))], [(128, ⟨2, .int .i64, y1, 99, none, []⟩)], [], [], []⟩)
theorem Z16.l13_ok : LT X0 68 13 Z16.l13.s Z16.l13.u :=
 lt hX Tryz.f68 (by kernel_rfl) (fun _ _ h => h) (D52 hX) nL (fun n v K => by kernel_rfl)
theorem Z16.l6_ok : LT X0 68 6 Z16.l6.s Z16.l6.u :=
 lt hX Tryz.f68 (by kernel_rfl) (fun _ _ h => h) (D52 hX) (oL (Z16.l13_ok hX) nL) (fun n v K => by kernel_rfl)
theorem qO6 : CT X0 68 Z16.a Z16.u :=
 ct hX Tryz.f68 (by kernel_rfl) (fun _ _ h => h) (D52 hX) (oL (Z16.l6_ok hX) nL) (fun n v K => by kernel_rfl)
def D53 : CS X0 := oC (qO6 hX) (D52 hX)
abbrev Z15.a : List TS := [.c (.o (.dat 59 Y8)), .a [.o (.dat 88 Y4)]]
def Z15.u (n : Nat) (v : VA Z15.a) (K : RES -> Prop) : Prop := Z15.c n v.1 v.2.1.1 (fun r0 => K ⟨.c (.int .i64 r0), []⟩)
theorem qO7 : CT X0 55 Z15.a Z15.u :=
 ct hX Tryz.f55 (by kernel_rfl) (fun _ _ h => h) (D53 hX) nL (fun n v K => by kernel_rfl)
def D54 : CS X0 := oC (qO7 hX) (D53 hX)
abbrev Z10.a : List TS := [.c (.o (.dat 59 Y8)), .c (.o (.dat 56 Y2))]
def Z10.u (n : Nat) (v : VA Z10.a) (K : RES -> Prop) : Prop := Z10.c n v.1 v.2.1 (fun r0 => K ⟨.c (.bool r0), []⟩)
abbrev Z10.l5.s : ST := ⟨[(0, .c (.o (.dat 59 Y8))), (5, .c (.o (.int .i64))), (12, .c (.o (.dat 56 Y2))), (13, .c (.o (.int .i64))), (14, .c (.o (.int .i64)))], [], [], [], []⟩
def Z10.l5.u (n : Nat) (v : Z10.l5.s.V) (K : X -> St -> Prop) : Prop := Z10.l5 n v.1.1 v.1.2.2.1 v.1.2.2.2.1 v.1.2.1 v.1.2.2.2.2.1 (K (.exit 0) ⟨[], [], [], [], []⟩) (fun y0 => K .ret ⟨[(4, .c (.bool y0))], [], [], [], []⟩)
theorem Z10.l5_ok : LT X0 44 5 Z10.l5.s Z10.l5.u :=
 lt hX Tryz.f44 (by kernel_rfl) (fun _ _ h => h) (D54 hX) nL (fun n v K => by kernel_rfl)
theorem qPc : CT X0 44 Z10.a Z10.u :=
 ct hX Tryz.f44 (by kernel_rfl) (fun _ _ h => h) (D54 hX) (oL (Z10.l5_ok hX) nL) (fun n v K => by kernel_rfl)
def D55 : CS X0 := oC (qPc hX) (D54 hX)
abbrev Z2.a : List TS := [.c (.o (.dat 59 Y8)), .c (.o (.dat 56 Y2))]
def Z2.u (n : Nat) (v : VA Z2.a) (K : RES -> Prop) : Prop := Z2.c n v.1 v.2.1 (fun r0 => K ⟨.c (.bool r0), []⟩)
theorem qPG : CT X0 25 Z2.a Z2.u :=
 ct hX Tryz.f25 (by kernel_rfl) (fun _ _ h => h) (D55 hX) nL (fun n v K => by kernel_rfl)
def D56 : CS X0 := oC (qPG hX) (D55 hX)
abbrev Z65.a : List TS := [.c (.o (.row 2 (.int .i64) 99))]
def Z65.u (n : Nat) (v : VA Z65.a) (K : RES -> Prop) : Prop := Z65.c n v.1 (fun r0 => K ⟨.tup [], [[.row ⟨2, .int .i64, r0, 99, none, []⟩]]⟩)
omit hX in
theorem qMC : CT X0 58 Z65.a Z65.u :=
 qHg (C := C) (X0 := X0) (g := 58) (by kernel_rfl) (B := qHS) qME (A := Z65.a) (u := Z65.u) (fun v K h => h) (fun n v K => by kernel_rfl)
set_option linter.unusedSectionVars false in
theorem qNE : CT X0 58 Z65.a Z65.u := qMC
def D57 : CS X0 := oC (qNE hX) (D56 hX)
abbrev Z59.a : List TS := [.c (.o (.row 2 (.int .i64) 99))]
def Z59.u (n : Nat) (v : VA Z59.a) (K : RES -> Prop) : Prop := Z59.c n v.1 (fun r0 => K ⟨.c (.row ⟨2, .int .i64, r0, 99, none, []⟩), []⟩)
abbrev Z59.l9.s : ST := ⟨[(0, .c (.o (.own 0))), (3, .c (.o (.int .i64))), (4, .c (.o (.vw 0))), (5, .c (.o (.int .i64)))], [⟨0, 2, .int .i64, 99, false⟩], [], [], []⟩
def Z59.l9.u (n : Nat) (v : Z59.l9.s.V) (K : X -> St -> Prop) : Prop := Z59.l9 n v.1.2.2.1.1 v.1.2.2.1.2 v.1.2.1 v.1.2.2.2.1 v.2.1.1 (fun y0 y1 => K (.exit 2) ⟨[(0, .c (.own 0)), (3, .c (.int .i64 y0))], [(0, ⟨2, .int .i64, y1, 99, none, []⟩)], [], [], []⟩)
abbrev Z59.l4.s : ST := ⟨[(0, .c (.o (.own 0))), (3, .c (.o (.int .i64)))], [⟨0, 2, .int .i64, 99, false⟩], [], [], []⟩
def Z59.l4.u (n : Nat) (v : Z59.l4.s.V) (K : X -> St -> Prop) : Prop := Z59.l4 n v.2.1.1 v.1.2.1 (fun y0 => K (.exit 0) ⟨[(0, .c (.own 0))], [(0, ⟨2, .int .i64, y0, 99, none, []⟩)], [], [], []⟩) (fun y0 y1 y2 => K .ret ⟨[(2, .c (.vw 0 0 y1))], [(0, ⟨2, .int .i64, y2, 99, none, []⟩)], [], [], []⟩)
theorem Z59.l9_ok : LT X0 59 9 Z59.l9.s Z59.l9.u :=
 lt hX Tryz.f59 (by kernel_rfl) (fun _ _ h => h) (D57 hX) nL (fun n v K => by kernel_rfl)
theorem Z59.l4_ok : LT X0 59 4 Z59.l4.s Z59.l4.u :=
 lt hX Tryz.f59 (by kernel_rfl) (fun _ _ h => h) (D57 hX) (oL (Z59.l9_ok hX) nL) (fun n v K => by kernel_rfl)
theorem qNN : CT X0 59 Z59.a Z59.u :=
 ct hX Tryz.f59 (by kernel_rfl) (fun _ _ h => h) (D57 hX) (oL (Z59.l4_ok hX) nL) (fun n v K => by kernel_rfl)
def D58 : CS X0 := oC (qNN hX) (D57 hX)
abbrev Z14.a : List TS := [.a [.o (.dat 88 Y4)]]
def Z14.u (n : Nat) (v : VA Z14.a) (K : RES -> Prop) : Prop := Z14.c n v.1.1 (fun r0 => K ⟨.c (.row ⟨2, .int .i64, r0, 99, none, []⟩), []⟩)
abbrev Z14.l3.s : ST := ⟨[(3, .c (.o (.own 96))), (8, .c (.o (.dat 88 Y4))), (9, .c (.o (.int .i64))), (10, .c (.o (.int .i64)))], [⟨96, 2, .int .i64, 99, false⟩], [], [], []⟩
def Z14.l3.u (n : Nat) (v : Z14.l3.s.V) (K : X -> St -> Prop) : Prop := Z14.l3 n v.1.2.1 v.1.2.2.1 v.1.2.2.2.1 v.2.1.1 (fun y0 => K (.exit 0) ⟨[(3, .c (.own 96))], [(96, ⟨2, .int .i64, y0, 99, none, []⟩)], [], [], []⟩)
theorem Z14.l3_ok : LT X0 57 3 Z14.l3.s Z14.l3.u :=
 lt hX Tryz.f57 (by kernel_rfl) (fun _ _ h => h) (D58 hX) nL (fun n v K => by kernel_rfl)
theorem qO8 : CT X0 57 Z14.a Z14.u :=
 ct hX Tryz.f57 (by kernel_rfl) (fun _ _ h => h) (D58 hX) (oL (Z14.l3_ok hX) nL) (fun n v K => by kernel_rfl)
def D59 : CS X0 := oC (qO8 hX) (D58 hX)
abbrev Z62.a : List TS := [.c (.o (.emp 2 (.int .i64))), .c (.o (.int .i64))]
def Z62.u (n : Nat) (v : VA Z62.a) (K : RES -> Prop) : Prop := Z62.c n v.2.1 (fun r0 => K ⟨.c (.row ⟨2, .int .i64, r0, 99, none, []⟩), []⟩)
omit hX in
theorem qMD : CT X0 69 Z62.a Z62.u :=
 qHg (C := C) (X0 := X0) (g := 69) (by kernel_rfl) (B := (qJB 2)) qMF (A := Z62.a) (u := Z62.u) (fun v K h => h) (fun n v K => by kernel_rfl)
set_option linter.unusedSectionVars false in
theorem qNJ : CT X0 69 Z62.a Z62.u := qMD
def D60 : CS X0 := oC (qNJ hX) (D59 hX)
abbrev Z60.a : List TS := [.c (.o (.dat 50 (.sl 2 (.int .i64))))]
def Z60.u (n : Nat) (v : VA Z60.a) (K : RES -> Prop) : Prop := Z60.c n v.1 (fun r0 => K ⟨.c (.row ⟨2, .int .i64, r0, 99, none, []⟩), []⟩)
abbrev Z60.l3.s : ST := ⟨[(0, .c (.o (.dat 50 (.sl 2 (.int .i64))))), (3, .c (.o (.int .i64))), (9, .c (.o (.dat 50 (.sl 2 (.int .i64))))), (10, .c (.o (.int .i64))), (11, .c (.o (.int .i64)))], [], [], [], []⟩
def Z60.l3.u (n : Nat) (v : Z60.l3.s.V) (K : X -> St -> Prop) : Prop := Z60.l3 n v.1.1 v.1.2.2.1 v.1.2.2.2.1 v.1.2.1 v.1.2.2.2.2.1 (fun y0 y1 => K (.exit 0) ⟨[(0, .c (.dat 50 (.sl 2 (.int .i64)) y0)), (3, .c (.int .i64 y1))], [], [], [], []⟩)
abbrev Z60.l11.s : ST := ⟨[(6, .c (.o (.own 192))), (25, .c (.o (.dat 50 (.sl 2 (.int .i64))))), (26, .c (.o (.int .i64))), (27, .c (.o (.int .i64)))], [⟨192, 2, .int .i64, 99, false⟩], [], [], []⟩
def Z60.l11.u (n : Nat) (v : Z60.l11.s.V) (K : X -> St -> Prop) : Prop := Z60.l11 n v.1.2.1 v.1.2.2.1 v.1.2.2.2.1 v.2.1.1 (fun y0 => K (.exit 2) ⟨[(6, .c (.own 192))], [(192, ⟨2, .int .i64, y0, 99, none, []⟩)], [], [], []⟩)
theorem Z60.l3_ok : LT X0 56 3 Z60.l3.s Z60.l3.u :=
 lt hX Tryz.f56 (by kernel_rfl) (fun _ _ h => h) (D60 hX) nL (fun n v K => by kernel_rfl)
theorem Z60.l11_ok : LT X0 56 11 Z60.l11.s Z60.l11.u :=
 lt hX Tryz.f56 (by kernel_rfl) (fun _ _ h => h) (D60 hX) nL (fun n v K => by kernel_rfl)
theorem qNM : CT X0 56 Z60.a Z60.u :=
 ct hX Tryz.f56 (by kernel_rfl) (fun _ _ h => h) (D60 hX) (oL (Z60.l3_ok hX) (oL (Z60.l11_ok hX) nL)) (fun n v K => by kernel_rfl)
def D61 : CS X0 := oC (qNM hX) (D60 hX)
abbrev Z13.a : List TS := [.a [.o (.int .i64), .o .bool, .o (.dat 88 Y4), .o (.dat 88 Y4)]]
def Z13.u (n : Nat) (v : VA Z13.a) (K : RES -> Prop) : Prop := Z13.c n v.1.1 v.1.2.1 v.1.2.2.1 v.1.2.2.2.1 (fun r0 => K ⟨.c (.row ⟨2, .int .i64, r0, 99, none, []⟩), []⟩)
theorem qO9 : CT X0 45 Z13.a Z13.u :=
 ct hX Tryz.f45 (by kernel_rfl) (fun _ _ h => h) (D61 hX) nL (fun n v K => by kernel_rfl)
def D62 : CS X0 := oC (qO9 hX) (D61 hX)
abbrev Z12.a : List TS := [.c (.o (.dat 59 Y8)), .c (.o (.dat 56 Y2))]
def Z12.u (n : Nat) (v : VA Z12.a) (K : RES -> Prop) : Prop := Z12.c n v.1 v.2.1 (fun r0 => K ⟨.c (.row ⟨31, .sl 56 Y2, r0, 2, none, []⟩), []⟩)
abbrev Z12.l3.s : ST := ⟨[(1, .c (.o (.dat 56 Y2))), (5, .c (.o (.own 768))), (6, .c (.o (.own 864))), (29, .c (.o (.int .i64))), (30, .c (.o (.int .i64)))], [⟨768, 3, .int .i64, 99, false⟩, ⟨864, 3, .int .i64, 99, false⟩], [], [], []⟩
def Z12.l3.u (n : Nat) (v : Z12.l3.s.V) (K : X -> St -> Prop) : Prop := Z12.l3 n v.1.1 v.1.2.2.2.1 v.2.1.2.1 v.1.2.2.2.2.1 v.2.1.1 (fun y0 y1 y2 => K (.exit 0) ⟨[(1, .c (.dat 56 Y2 y0)), (5, .c (.own 768)), (6, .c (.own 864))], [(768, ⟨3, .int .i64, y1, 99, none, []⟩), (864, ⟨3, .int .i64, y2, 99, none, []⟩)], [], [], []⟩)
abbrev Z12.l19.s : ST := ⟨[(1, .c (.o (.dat 56 Y2))), (5, .c (.o (.own 768))), (6, .c (.o (.own 864))), (8, .c (.o (.int .i64))), (13, .c (.o (.int .i64))), (14, .c (.o (.int .i64))), (37, .c (.o (.dat 56 Y2))), (38, .c (.o (.int .i64))), (39, .c (.o (.int .i64))), (49, .c (.o (.own 1568))), (50, .c (.o (.int .i64))), (51, .c (.o (.int .i64))), (88, .c (.o (.int .i64))), (89, .c (.o (.int .i64)))], [⟨768, 3, .int .i64, 99, false⟩, ⟨864, 3, .int .i64, 99, false⟩, ⟨1568, 2, .int .i64, 99, false⟩], [], [], []⟩
def Z12.l19.u (n : Nat) (v : Z12.l19.s.V) (K : X -> St -> Prop) : Prop := Z12.l19 n v.1.1 v.1.2.2.2.1 v.1.2.2.2.2.1 v.1.2.2.2.2.2.1 v.1.2.2.2.2.2.2.1 v.1.2.2.2.2.2.2.2.1 v.1.2.2.2.2.2.2.2.2.1 v.1.2.2.2.2.2.2.2.2.2.2.1 v.1.2.2.2.2.2.2.2.2.2.2.2.1 v.1.2.2.2.2.2.2.2.2.2.2.2.2.1 v.2.1.1 v.2.1.2.2.1 v.1.2.2.2.2.2.2.2.2.2.2.2.2.2.1 v.2.1.2.1 (fun y0 y1 y2 y3 y4 y5 y6 y7 y8 y9 => K (.exit 6) ⟨[(1, .c (.dat 56 Y2 y0)), (5, .c (.own 768)), (6, .c (.own 864)), (8, .c (.int .i64 y1)), (37, .c (.dat 56 Y2 y2)), (38, .c (.int .i64 y3)), (39, .c (.int .i64 y4)), (49, .c (.own 1568)), (50, .c (.int .i64 y5)), (51, .c (.int .i64 y6))], [(768, ⟨3, .int .i64, y7, 99, none, []⟩), (864, ⟨3, .int .i64, y8, 99, none, []⟩), (1568, ⟨2, .int .i64, y9, 99, none, []⟩)], [], [], []⟩)
abbrev Z12.l12.s : ST := ⟨[(1, .c (.o (.dat 56 Y2))), (5, .c (.o (.own 768))), (6, .c (.o (.own 864))), (8, .c (.o (.int .i64))), (37, .c (.o (.dat 56 Y2))), (38, .c (.o (.int .i64))), (39, .c (.o (.int .i64))), (49, .c (.o (.own 1568))), (50, .c (.o (.int .i64))), (51, .c (.o (.int .i64)))], [⟨768, 3, .int .i64, 99, false⟩, ⟨864, 3, .int .i64, 99, false⟩, ⟨1568, 2, .int .i64, 99, false⟩], [], [], []⟩
def Z12.l12.u (n : Nat) (v : Z12.l12.s.V) (K : X -> St -> Prop) : Prop := Z12.l12 n v.1.1 v.1.2.2.2.1 v.1.2.2.2.2.1 v.1.2.2.2.2.2.1 v.1.2.2.2.2.2.2.1 v.1.2.2.2.2.2.2.2.2.1 v.1.2.2.2.2.2.2.2.2.2.1 v.2.1.1 v.2.1.2.1 v.2.1.2.2.1 (fun y0 y1 y2 y3 y4 y5 => K (.exit 4) ⟨[(1, .c (.dat 56 Y2 y0)), (5, .c (.own 768)), (6, .c (.own 864)), (37, .c (.dat 56 Y2 y1)), (38, .c (.int .i64 y2)), (39, .c (.int .i64 y3))], [(768, ⟨3, .int .i64, y4, 99, none, []⟩), (864, ⟨3, .int .i64, y5, 99, none, []⟩)], [], [], []⟩)
abbrev Z12.l8.s : ST := ⟨[(1, .c (.o (.dat 56 Y2))), (5, .c (.o (.own 768))), (6, .c (.o (.own 864))), (37, .c (.o (.dat 56 Y2))), (38, .c (.o (.int .i64))), (39, .c (.o (.int .i64)))], [⟨768, 3, .int .i64, 99, false⟩, ⟨864, 3, .int .i64, 99, false⟩], [], [], []⟩
def Z12.l8.u (n : Nat) (v : Z12.l8.s.V) (K : X -> St -> Prop) : Prop := Z12.l8 n v.1.1 v.1.2.2.2.1 v.1.2.2.2.2.1 v.1.2.2.2.2.2.1 v.2.1.1 v.2.1.2.1 (fun y0 y1 => K (.exit 2) ⟨[(1, .c (.dat 56 Y2 y0)), (6, .c (.own 864))], [(864, ⟨3, .int .i64, y1, 99, none, []⟩)], [], [], []⟩)
abbrev Z12.l28.s : ST := ⟨[(6, .c (.o (.own 864))), (16, .c (.o (.own 512))), (17, .c (.o (.own 3392))), (107, .c (.o (.dat 56 Y2))), (108, .c (.o (.int .i64))), (109, .c (.o (.int .i64)))], [⟨512, 31, .sl 56 Y2, 2, false⟩, ⟨864, 3, .int .i64, 99, false⟩, ⟨3392, 0, .prod (.int .i64) (.int .i64), 99, true⟩], [], [], []⟩
def Z12.l28.u (n : Nat) (v : Z12.l28.s.V) (K : X -> St -> Prop) : Prop := Z12.l28 n v.1.2.2.2.1 v.1.2.2.2.2.1 v.2.1.2.1 v.1.2.2.2.2.2.1 v.2.1.1 v.2.1.2.2.1 (fun y0 => K (.exit 8) ⟨[(16, .c (.own 512))], [(512, ⟨31, .sl 56 Y2, y0, 2, none, []⟩)], [], [], []⟩)
theorem Z12.l3_ok : LT X0 26 3 Z12.l3.s Z12.l3.u :=
 lt hX Tryz.f26 (by kernel_rfl) (fun _ _ h => h) (D62 hX) nL (fun n v K => by kernel_rfl)
theorem Z12.l19_ok : LT X0 26 19 Z12.l19.s Z12.l19.u :=
 lt hX Tryz.f26 (by kernel_rfl) (fun _ _ h => h) (D62 hX) nL (fun n v K => by kernel_rfl)
theorem Z12.l12_ok : LT X0 26 12 Z12.l12.s Z12.l12.u :=
 lt hX Tryz.f26 (by kernel_rfl) (fun _ _ h => h) (D62 hX) (oL (Z12.l19_ok hX) nL) (fun n v K => by kernel_rfl)
theorem Z12.l8_ok : LT X0 26 8 Z12.l8.s Z12.l8.u :=
 lt hX Tryz.f26 (by kernel_rfl) (fun _ _ h => h) (D62 hX) (oL (Z12.l12_ok hX) nL) (fun n v K => by kernel_rfl)
theorem Z12.l28_ok : LT X0 26 28 Z12.l28.s Z12.l28.u :=
 lt hX Tryz.f26 (by kernel_rfl) (fun _ _ h => h) (D62 hX) nL (fun n v K => by kernel_rfl)
theorem qPa : CT X0 26 Z12.a Z12.u :=
 ct hX Tryz.f26 (by kernel_rfl) (fun _ _ h => h) (D62 hX) (oL (Z12.l3_ok hX) (oL (Z12.l8_ok hX) (oL (Z12.l28_ok hX) nL))) (fun n v K => by kernel_rfl)
def D63 : CS X0 := oC (qPa hX) (D62 hX)
abbrev Z8.a : List TS := [.c (.o (.dat 56 Y2))]
def Z8.u (n : Nat) (v : VA Z8.a) (K : RES -> Prop) : Prop := Z8.c n v.1 (fun r0 => K ⟨.c (.row ⟨2, .int .i64, r0, 99, none, []⟩), []⟩)
abbrev Z8.l3.s : ST := ⟨[(3, .c (.o (.own 96))), (7, .c (.o (.dat 56 Y2))), (8, .c (.o (.int .i64))), (9, .c (.o (.int .i64)))], [⟨96, 2, .int .i64, 99, false⟩], [], [], []⟩
def Z8.l3.u (n : Nat) (v : Z8.l3.s.V) (K : X -> St -> Prop) : Prop := Z8.l3 n v.1.2.1 v.1.2.2.1 v.1.2.2.2.1 v.2.1.1 (fun y0 => K (.exit 0) ⟨[(3, .c (.own 96))], [(96, ⟨2, .int .i64, y0, 99, none, []⟩)], [], [], []⟩)
theorem Z8.l3_ok : LT X0 27 3 Z8.l3.s Z8.l3.u :=
 lt hX Tryz.f27 (by kernel_rfl) (fun _ _ h => h) (D63 hX) nL (fun n v K => by kernel_rfl)
theorem qPA : CT X0 27 Z8.a Z8.u :=
 ct hX Tryz.f27 (by kernel_rfl) (fun _ _ h => h) (D63 hX) (oL (Z8.l3_ok hX) nL) (fun n v K => by kernel_rfl)
def D64 : CS X0 := oC (qPA hX) (D63 hX)
abbrev Z3.a : List TS := [.c (.o (.dat 59 Y8)), .c (.o (.dat 56 Y2))]
def Z3.u (n : Nat) (v : VA Z3.a) (K : RES -> Prop) : Prop := Z3.c n v.1 v.2.1 (fun r0 r1 => K ⟨.tup [.c (.row ⟨50, .sl 2 (.int .i64), r0, 99, none, []⟩), .c (.bool r1)], []⟩)
abbrev Z3.l5.s : ST := ⟨[(6, .c (.o (.own 192))), (16, .c (.o (.own 512))), (17, .c (.o (.int .i64))), (18, .c (.o (.int .i64)))], [⟨192, 50, .sl 2 (.int .i64), 99, false⟩, ⟨512, 31, .sl 56 Y2, 2, false⟩], [], [], []⟩
def Z3.l5.u (n : Nat) (v : Z3.l5.s.V) (K : X -> St -> Prop) : Prop := Z3.l5 n v.1.2.2.1 v.2.1.2.1 v.1.2.2.2.1 v.2.1.1 (fun y0 => K (.exit 0) ⟨[(6, .c (.own 192))], [(192, ⟨50, .sl 2 (.int .i64), y0, 99, none, []⟩)], [], [], []⟩)
theorem Z3.l5_ok : LT X0 9 5 Z3.l5.s Z3.l5.u :=
 lt hX Tryz.f9 (by kernel_rfl) (fun _ _ h => h) (D64 hX) nL (fun n v K => by kernel_rfl)
theorem qPF : CT X0 9 Z3.a Z3.u :=
 ct hX Tryz.f9 (by kernel_rfl) (fun _ _ h => h) (D64 hX) (oL (Z3.l5_ok hX) nL) (fun n v K => by kernel_rfl)
def D65 : CS X0 := oC (qPF hX) (D64 hX)
abbrev Z21.a : List TS := [.c (.o (.dat 2 (.int .i64))), .c (.o (.dat 2 (.int .i64)))]
def Z21.u (n : Nat) (v : VA Z21.a) (K : RES -> Prop) : Prop := Z21.c n v.1 v.2.1 (fun r0 => K ⟨.c (.bool r0), []⟩)
abbrev Z21.l4.s : ST := ⟨[(0, .c (.o (.dat 2 (.int .i64)))), (1, .c (.o (.dat 2 (.int .i64)))), (5, .c (.o (.int .i64)))], [], [], [], []⟩
def Z21.l4.u (n : Nat) (v : Z21.l4.s.V) (K : X -> St -> Prop) : Prop := Z21.l4 n v.1.1 v.1.2.1 v.1.2.2.1 (K (.exit 0) ⟨[], [], [], [], []⟩) (fun y0 => K .ret ⟨[(4, .c (.bool y0))], [], [], [], []⟩)
theorem Z21.l4_ok : LT X0 28 4 Z21.l4.s Z21.l4.u :=
 lt hX Tryz.f28 (by kernel_rfl) (fun _ _ h => h) (D65 hX) nL (fun n v K => by kernel_rfl)
theorem qOY : CT X0 28 Z21.a Z21.u :=
 ct hX Tryz.f28 (by kernel_rfl) (fun _ _ h => h) (D65 hX) (oL (Z21.l4_ok hX) nL) (fun n v K => by kernel_rfl)
def D66 : CS X0 := oC (qOY hX) (D65 hX)
abbrev Z22.a : List TS := [.c (.o (.dat 50 (.sl 2 (.int .i64)))), .c (.o (.dat 50 (.sl 2 (.int .i64))))]
def Z22.u (n : Nat) (v : VA Z22.a) (K : RES -> Prop) : Prop := Z22.c n v.1 v.2.1 (fun r0 => K ⟨.c (.bool r0), []⟩)
abbrev Z22.l4.s : ST := ⟨[(0, .c (.o (.dat 50 (.sl 2 (.int .i64))))), (1, .c (.o (.dat 50 (.sl 2 (.int .i64))))), (5, .c (.o (.int .i64)))], [], [], [], []⟩
def Z22.l4.u (n : Nat) (v : Z22.l4.s.V) (K : X -> St -> Prop) : Prop := Z22.l4 n v.1.1 v.1.2.1 v.1.2.2.1 (K (.exit 0) ⟨[], [], [], [], []⟩) (fun y0 => K .ret ⟨[(4, .c (.bool y0))], [], [], [], []⟩)
theorem Z22.l4_ok : LT X0 10 4 Z22.l4.s Z22.l4.u :=
 lt hX Tryz.f10 (by kernel_rfl) (fun _ _ h => h) (D66 hX) nL (fun n v K => by kernel_rfl)
theorem qOW : CT X0 10 Z22.a Z22.u :=
 ct hX Tryz.f10 (by kernel_rfl) (fun _ _ h => h) (D66 hX) (oL (Z22.l4_ok hX) nL) (fun n v K => by kernel_rfl)
def D67 : CS X0 := oC (qOW hX) (D66 hX)
abbrev Z19.a : List TS := [.a [.o .str, .o (.int .i64)], .a [.o .str, .o (.int .i64)]]
def Z19.u (n : Nat) (v : VA Z19.a) (K : RES -> Prop) : Prop := Z19.c n v.1.1 v.1.2.1 v.2.1.1 v.2.1.2.1 (fun r0 => K ⟨.c (.bool r0), []⟩)
theorem qO1 : CT X0 29 Z19.a Z19.u :=
 ct hX Tryz.f29 (by kernel_rfl) (fun _ _ h => h) (D67 hX) nL (fun n v K => by kernel_rfl)
def D68 : CS X0 := oC (qO1 hX) (D67 hX)
abbrev Z20.a : List TS := [.c (.o (.dat 59 Y8)), .c (.o (.dat 59 Y8))]
def Z20.u (n : Nat) (v : VA Z20.a) (K : RES -> Prop) : Prop := Z20.c n v.1 v.2.1 (fun r0 => K ⟨.c (.bool r0), []⟩)
abbrev Z20.l4.s : ST := ⟨[(0, .c (.o (.dat 59 Y8))), (1, .c (.o (.dat 59 Y8))), (5, .c (.o (.int .i64)))], [], [], [], []⟩
def Z20.l4.u (n : Nat) (v : Z20.l4.s.V) (K : X -> St -> Prop) : Prop := Z20.l4 n v.1.1 v.1.2.1 v.1.2.2.1 (K (.exit 0) ⟨[], [], [], [], []⟩) (fun y0 => K .ret ⟨[(4, .c (.bool y0))], [], [], [], []⟩)
theorem Z20.l4_ok : LT X0 11 4 Z20.l4.s Z20.l4.u :=
 lt hX Tryz.f11 (by kernel_rfl) (fun _ _ h => h) (D68 hX) nL (fun n v K => by kernel_rfl)
theorem qOZ : CT X0 11 Z20.a Z20.u :=
 ct hX Tryz.f11 (by kernel_rfl) (fun _ _ h => h) (D68 hX) (oL (Z20.l4_ok hX) nL) (fun n v K => by kernel_rfl)
def D69 : CS X0 := oC (qOZ hX) (D68 hX)
abbrev Z28.a : List TS := [.c (.o (.dat 98 (.int .u64))), .c (.o (.dat 98 (.int .u64)))]
def Z28.u (n : Nat) (v : VA Z28.a) (K : RES -> Prop) : Prop := Z28.c n v.1 v.2.1 (fun r0 => K ⟨.c (.bool r0), []⟩)
abbrev Z28.l4.s : ST := ⟨[(0, .c (.o (.dat 98 (.int .u64)))), (1, .c (.o (.dat 98 (.int .u64)))), (5, .c (.o (.int .i64)))], [], [], [], []⟩
def Z28.l4.u (n : Nat) (v : Z28.l4.s.V) (K : X -> St -> Prop) : Prop := Z28.l4 n v.1.1 v.1.2.1 v.1.2.2.1 (K (.exit 0) ⟨[], [], [], [], []⟩) (fun y0 => K .ret ⟨[(4, .c (.bool y0))], [], [], [], []⟩)
theorem Z28.l4_ok : LT X0 106 4 Z28.l4.s Z28.l4.u :=
 lt hX Tryz.f106 (by kernel_rfl) (fun _ _ h => h) (D69 hX) nL (fun n v K => by kernel_rfl)
theorem qOK : CT X0 106 Z28.a Z28.u :=
 ct hX Tryz.f106 (by kernel_rfl) (fun _ _ h => h) (D69 hX) (oL (Z28.l4_ok hX) nL) (fun n v K => by kernel_rfl)
def D70 : CS X0 := oC (qOK hX) (D69 hX)
abbrev Z18.a : List TS := [.a [.o (.int .i64), .o (.dat 98 (.int .u64))], .a [.o (.int .i64), .o (.dat 98 (.int .u64))]]
def Z18.u (n : Nat) (v : VA Z18.a) (K : RES -> Prop) : Prop := Z18.c n v.1.1 v.1.2.1 v.2.1.1 v.2.1.2.1 (fun r0 => K ⟨.c (.bool r0), []⟩)
theorem qO3 : CT X0 94 Z18.a Z18.u :=
 ct hX Tryz.f94 (by kernel_rfl) (fun _ _ h => h) (D70 hX) nL (fun n v K => by kernel_rfl)
def D71 : CS X0 := oC (qO3 hX) (D70 hX)
abbrev Z25.a : List TS := [.a [.o (.int .i64), .o (.int .i64), .o (.int .i64), .o (.int .i64), .o (.int .i64), .o (.dat 98 (.int .u64)), .o (.dat 2 (.int .i64))], .a [.o (.int .i64), .o (.int .i64), .o (.int .i64), .o (.int .i64), .o (.int .i64), .o (.dat 98 (.int .u64)), .o (.dat 2 (.int .i64))]]
def Z25.u (n : Nat) (v : VA Z25.a) (K : RES -> Prop) : Prop := Z25.c n v.1.1 v.1.2.1 v.1.2.2.1 v.1.2.2.2.1 v.1.2.2.2.2.1 v.1.2.2.2.2.2.1 v.1.2.2.2.2.2.2.1 v.2.1.1 v.2.1.2.1 v.2.1.2.2.1 v.2.1.2.2.2.1 v.2.1.2.2.2.2.1 v.2.1.2.2.2.2.2.1 v.2.1.2.2.2.2.2.2.1 (fun r0 => K ⟨.c (.bool r0), []⟩)
theorem qOQ : CT X0 72 Z25.a Z25.u :=
 ct hX Tryz.f72 (by kernel_rfl) (fun _ _ h => h) (D71 hX) nL (fun n v K => by kernel_rfl)
def D72 : CS X0 := oC (qOQ hX) (D71 hX)
abbrev Z26.a : List TS := [.c (.o (.dat 88 Y4)), .c (.o (.dat 88 Y4))]
def Z26.u (n : Nat) (v : VA Z26.a) (K : RES -> Prop) : Prop := Z26.c n v.1 v.2.1 (fun r0 => K ⟨.c (.bool r0), []⟩)
abbrev Z26.l4.s : ST := ⟨[(0, .c (.o (.dat 88 Y4))), (1, .c (.o (.dat 88 Y4))), (5, .c (.o (.int .i64)))], [], [], [], []⟩
def Z26.l4.u (n : Nat) (v : Z26.l4.s.V) (K : X -> St -> Prop) : Prop := Z26.l4 n v.1.1 v.1.2.1 v.1.2.2.1 (K (.exit 0) ⟨[], [], [], [], []⟩) (fun y0 => K .ret ⟨[(4, .c (.bool y0))], [], [], [], []⟩)
theorem Z26.l4_ok : LT X0 60 4 Z26.l4.s Z26.l4.u :=
 lt hX Tryz.f60 (by kernel_rfl) (fun _ _ h => h) (D72 hX) nL (fun n v K => by kernel_rfl)
theorem qOO : CT X0 60 Z26.a Z26.u :=
 ct hX Tryz.f60 (by kernel_rfl) (fun _ _ h => h) (D72 hX) (oL (Z26.l4_ok hX) nL) (fun n v K => by kernel_rfl)
def D73 : CS X0 := oC (qOO hX) (D72 hX)
abbrev Z27.a : List TS := [.a [.o (.dat 88 Y4)], .a [.o (.dat 88 Y4)]]
def Z27.u (n : Nat) (v : VA Z27.a) (K : RES -> Prop) : Prop := Z27.c n v.1.1 v.2.1.1 (fun r0 => K ⟨.c (.bool r0), []⟩)
theorem qOM : CT X0 46 Z27.a Z27.u :=
 ct hX Tryz.f46 (by kernel_rfl) (fun _ _ h => h) (D73 hX) nL (fun n v K => by kernel_rfl)
def D74 : CS X0 := oC (qOM hX) (D73 hX)
abbrev Z23.a : List TS := [.a [.o (.int .i64), .o .bool, .o (.dat 88 Y4), .o (.dat 88 Y4)], .a [.o (.int .i64), .o .bool, .o (.dat 88 Y4), .o (.dat 88 Y4)]]
def Z23.u (n : Nat) (v : VA Z23.a) (K : RES -> Prop) : Prop := Z23.c n v.1.1 v.1.2.1 v.1.2.2.1 v.1.2.2.2.1 v.2.1.1 v.2.1.2.1 v.2.1.2.2.1 v.2.1.2.2.2.1 (fun r0 => K ⟨.c (.bool r0), []⟩)
theorem qOU : CT X0 30 Z23.a Z23.u :=
 ct hX Tryz.f30 (by kernel_rfl) (fun _ _ h => h) (D74 hX) nL (fun n v K => by kernel_rfl)
def D75 : CS X0 := oC (qOU hX) (D74 hX)
abbrev Z24.a : List TS := [.c (.o (.dat 56 Y2)), .c (.o (.dat 56 Y2))]
def Z24.u (n : Nat) (v : VA Z24.a) (K : RES -> Prop) : Prop := Z24.c n v.1 v.2.1 (fun r0 => K ⟨.c (.bool r0), []⟩)
abbrev Z24.l4.s : ST := ⟨[(0, .c (.o (.dat 56 Y2))), (1, .c (.o (.dat 56 Y2))), (5, .c (.o (.int .i64)))], [], [], [], []⟩
def Z24.l4.u (n : Nat) (v : Z24.l4.s.V) (K : X -> St -> Prop) : Prop := Z24.l4 n v.1.1 v.1.2.1 v.1.2.2.1 (K (.exit 0) ⟨[], [], [], [], []⟩) (fun y0 => K .ret ⟨[(4, .c (.bool y0))], [], [], [], []⟩)
theorem Z24.l4_ok : LT X0 12 4 Z24.l4.s Z24.l4.u :=
 lt hX Tryz.f12 (by kernel_rfl) (fun _ _ h => h) (D75 hX) nL (fun n v K => by kernel_rfl)
theorem qOS : CT X0 12 Z24.a Z24.u :=
 ct hX Tryz.f12 (by kernel_rfl) (fun _ _ h => h) (D75 hX) (oL (Z24.l4_ok hX) nL) (fun n v K => by kernel_rfl)
def D76 : CS X0 := oC (qOS hX) (D75 hX)
abbrev Z37.a : List TS := [.c (.o (.int .i64))]
def Z37.u (n : Nat) (v : VA Z37.a) (K : RES -> Prop) : Prop := Z37.c n v.1 (fun r0 => K ⟨.c (.str r0), []⟩)
abbrev Z37.l4.s : ST := ⟨[(0, .c (.o (.int .i64))), (3, .c (.o .str))], [], [], [], []⟩
def Z37.l4.u (n : Nat) (v : Z37.l4.s.V) (K : X -> St -> Prop) : Prop := Z37.l4 n v.1.1 v.1.2.1 (fun y0 => K (.exit 0) ⟨[(3, .c (.str y0))], [], [], [], []⟩)
theorem Z37.l4_ok : LT X0 31 4 Z37.l4.s Z37.l4.u :=
 lt hX Tryz.f31 (by kernel_rfl) (fun _ _ h => h) (D76 hX) nL (fun n v K => by kernel_rfl)
theorem qOu : CT X0 31 Z37.a Z37.u :=
 ct hX Tryz.f31 (by kernel_rfl) (fun _ _ h => h) (D76 hX) (oL (Z37.l4_ok hX) nL) (fun n v K => by kernel_rfl)
def D77 : CS X0 := oC (qOu hX) (D76 hX)
abbrev Z31.a : List TS := [.c (.o (.row 59 Y8 99)), .c (.o (.int .i64))]
def Z31.u (n : Nat) (v : VA Z31.a) (K : RES -> Prop) : Prop := Z31.c n v.1 v.2.1 (fun r0 r1 => K ⟨.c (.int .i64 r0), [[.row ⟨59, .prod .str (.int .i64), r1, 99, none, []⟩]]⟩)
abbrev Z31.l2.s : ST := ⟨[(0, .c (.o (.own 0))), (1, .c (.o (.int .i64))), (5, .c (.o (.int .i64)))], [⟨0, 59, .prod .str (.int .i64), 99, false⟩], [], [0], []⟩
def Z31.l2.u (n : Nat) (v : Z31.l2.s.V) (K : X -> St -> Prop) : Prop := Z31.l2 n v.1.2.1 v.1.2.2.1 v.2.1.1 (fun y0 y1 => K (.exit 0) ⟨[(1, .c (.int .i64 y0))], [(0, ⟨59, .prod .str (.int .i64), y1, 99, none, []⟩)], [], [0], []⟩)
theorem Z31.l2_ok : LT X0 13 2 Z31.l2.s Z31.l2.u :=
 lt hX Tryz.f13 (by kernel_rfl) (fun _ _ h => h) (D77 hX) nL (fun n v K => by kernel_rfl)
theorem qOE : CT X0 13 Z31.a Z31.u :=
 ct hX Tryz.f13 (by kernel_rfl) (fun _ _ h => h) (D77 hX) (oL (Z31.l2_ok hX) nL) (fun n v K => by kernel_rfl)
def D78 : CS X0 := oC (qOE hX) (D77 hX)
abbrev Z38.a : List TS := [.c (.o (.row 98 (.int .u64) 97)), .c (.o (.int .i64))]
def Z38.u (n : Nat) (v : VA Z38.a) (K : RES -> Prop) : Prop := Z38.c n v.1 v.2.1 (fun r0 r1 => K ⟨.c (.int .i64 r0), [[.row ⟨98, .int .u64, r1, 97, none, []⟩]]⟩)
abbrev Z38.l2.s : ST := ⟨[(0, .c (.o (.own 0))), (1, .c (.o (.int .i64))), (5, .c (.o (.int .i64)))], [⟨0, 98, .int .u64, 97, false⟩], [], [0], []⟩
def Z38.l2.u (n : Nat) (v : Z38.l2.s.V) (K : X -> St -> Prop) : Prop := Z38.l2 n v.1.2.1 v.1.2.2.1 v.2.1.1 (fun y0 y1 => K (.exit 0) ⟨[(1, .c (.int .i64 y0))], [(0, ⟨98, .int .u64, y1, 97, none, []⟩)], [], [0], []⟩)
theorem Z38.l2_ok : LT X0 47 2 Z38.l2.s Z38.l2.u :=
 lt hX Tryz.f47 (by kernel_rfl) (fun _ _ h => h) (D78 hX) nL (fun n v K => by kernel_rfl)
theorem qOs : CT X0 47 Z38.a Z38.u :=
 ct hX Tryz.f47 (by kernel_rfl) (fun _ _ h => h) (D78 hX) (oL (Z38.l2_ok hX) nL) (fun n v K => by kernel_rfl)
def D79 : CS X0 := oC (qOs hX) (D78 hX)
abbrev Z32.a : List TS := [.c (.o (.row 2 (.int .i64) 97)), .c (.o (.int .i64))]
def Z32.u (n : Nat) (v : VA Z32.a) (K : RES -> Prop) : Prop := Z32.c n v.1 v.2.1 (fun r0 r1 => K ⟨.c (.int .i64 r0), [[.row ⟨2, .int .i64, r1, 97, none, []⟩]]⟩)
abbrev Z32.l2.s : ST := ⟨[(0, .c (.o (.own 0))), (1, .c (.o (.int .i64))), (5, .c (.o (.int .i64)))], [⟨0, 2, .int .i64, 97, false⟩], [], [0], []⟩
def Z32.l2.u (n : Nat) (v : Z32.l2.s.V) (K : X -> St -> Prop) : Prop := Z32.l2 n v.1.2.1 v.1.2.2.1 v.2.1.1 (fun y0 y1 => K (.exit 0) ⟨[(1, .c (.int .i64 y0))], [(0, ⟨2, .int .i64, y1, 97, none, []⟩)], [], [0], []⟩)
theorem Z32.l2_ok : LT X0 33 2 Z32.l2.s Z32.l2.u :=
 lt hX Tryz.f33 (by kernel_rfl) (fun _ _ h => h) (D79 hX) nL (fun n v K => by kernel_rfl)
theorem qOD : CT X0 33 Z32.a Z32.u :=
 ct hX Tryz.f33 (by kernel_rfl) (fun _ _ h => h) (D79 hX) (oL (Z32.l2_ok hX) nL) (fun n v K => by kernel_rfl)
def D80 : CS X0 := oC (qOD hX) (D79 hX)
abbrev Z36.a : List TS := [.c (.o (.row 88 Y4 98)), .c (.o (.int .i64))]
def Z36.u (n : Nat) (v : VA Z36.a) (K : RES -> Prop) : Prop := Z36.c n v.1 v.2.1 (fun r0 r1 => K ⟨.c (.int .i64 r0), [[.row ⟨88, .prod (.int .i64) Y5, r1, 98, none, []⟩]]⟩)
abbrev Z36.l2.s : ST := ⟨[(0, .c (.o (.own 0))), (1, .c (.o (.int .i64))), (5, .c (.o (.int .i64)))], [⟨0, 88, .prod (.int .i64) Y5, 98, false⟩], [], [0], []⟩
def Z36.l2.u (n : Nat) (v : Z36.l2.s.V) (K : X -> St -> Prop) : Prop := Z36.l2 n v.1.2.1 v.1.2.2.1 v.2.1.1 (fun y0 y1 => K (.exit 0) ⟨[(1, .c (.int .i64 y0))], [(0, ⟨88, .prod (.int .i64) Y5, y1, 98, none, []⟩)], [], [0], []⟩)
theorem Z36.l2_ok : LT X0 32 2 Z36.l2.s Z36.l2.u :=
 lt hX Tryz.f32 (by kernel_rfl) (fun _ _ h => h) (D80 hX) nL (fun n v K => by kernel_rfl)
theorem qOv : CT X0 32 Z36.a Z36.u :=
 ct hX Tryz.f32 (by kernel_rfl) (fun _ _ h => h) (D80 hX) (oL (Z36.l2_ok hX) nL) (fun n v K => by kernel_rfl)
def D81 : CS X0 := oC (qOv hX) (D80 hX)
abbrev Z35.a : List TS := [.c (.o (.row 56 Y2 99)), .c (.o (.int .i64))]
def Z35.u (n : Nat) (v : VA Z35.a) (K : RES -> Prop) : Prop := Z35.c n v.1 v.2.1 (fun r0 r1 => K ⟨.c (.int .i64 r0), [[.row ⟨56, .prod (.int .i64) Y3, r1, 99, none, []⟩]]⟩)
abbrev Z35.l2.s : ST := ⟨[(0, .c (.o (.own 0))), (1, .c (.o (.int .i64))), (5, .c (.o (.int .i64)))], [⟨0, 56, .prod (.int .i64) Y3, 99, false⟩], [], [0], []⟩
def Z35.l2.u (n : Nat) (v : Z35.l2.s.V) (K : X -> St -> Prop) : Prop := Z35.l2 n v.1.2.1 v.1.2.2.1 v.2.1.1 (fun y0 y1 => K (.exit 0) ⟨[(1, .c (.int .i64 y0))], [(0, ⟨56, .prod (.int .i64) Y3, y1, 99, none, []⟩)], [], [0], []⟩)
theorem Z35.l2_ok : LT X0 14 2 Z35.l2.s Z35.l2.u :=
 lt hX Tryz.f14 (by kernel_rfl) (fun _ _ h => h) (D81 hX) nL (fun n v K => by kernel_rfl)
theorem qOx : CT X0 14 Z35.a Z35.u :=
 ct hX Tryz.f14 (by kernel_rfl) (fun _ _ h => h) (D81 hX) (oL (Z35.l2_ok hX) nL) (fun n v K => by kernel_rfl)
def D82 : CS X0 := oC (qOx hX) (D81 hX)
abbrev Z34.a : List TS := [.c (.o (.row 2 (.int .i64) 98)), .c (.o (.int .i64))]
def Z34.u (n : Nat) (v : VA Z34.a) (K : RES -> Prop) : Prop := Z34.c n v.1 v.2.1 (fun r0 r1 => K ⟨.c (.int .i64 r0), [[.row ⟨2, .int .i64, r1, 98, none, []⟩]]⟩)
abbrev Z34.l2.s : ST := ⟨[(0, .c (.o (.own 0))), (1, .c (.o (.int .i64))), (5, .c (.o (.int .i64)))], [⟨0, 2, .int .i64, 98, false⟩], [], [0], []⟩
def Z34.l2.u (n : Nat) (v : Z34.l2.s.V) (K : X -> St -> Prop) : Prop := Z34.l2 n v.1.2.1 v.1.2.2.1 v.2.1.1 (fun y0 y1 => K (.exit 0) ⟨[(1, .c (.int .i64 y0))], [(0, ⟨2, .int .i64, y1, 98, none, []⟩)], [], [0], []⟩)
theorem Z34.l2_ok : LT X0 33 2 Z34.l2.s Z34.l2.u :=
 lt hX Tryz.f33 (by kernel_rfl) (fun _ _ h => h) (D82 hX) nL (fun n v K => by kernel_rfl)
theorem qOz : CT X0 33 Z34.a Z34.u :=
 ct hX Tryz.f33 (by kernel_rfl) (fun _ _ h => h) (D82 hX) (oL (Z34.l2_ok hX) nL) (fun n v K => by kernel_rfl)
def D83 : CS X0 := oC (qOz hX) (D82 hX)
abbrev Z33.a : List TS := [.c (.o (.row 50 (.sl 2 (.int .i64)) 99)), .c (.o (.int .i64))]
def Z33.u (n : Nat) (v : VA Z33.a) (K : RES -> Prop) : Prop := Z33.c n v.1 v.2.1 (fun r0 r1 => K ⟨.c (.int .i64 r0), [[.row ⟨50, .sl 2 (.int .i64), r1, 99, none, []⟩]]⟩)
abbrev Z33.l2.s : ST := ⟨[(0, .c (.o (.own 0))), (1, .c (.o (.int .i64))), (5, .c (.o (.int .i64)))], [⟨0, 50, .sl 2 (.int .i64), 99, false⟩], [], [0], []⟩
def Z33.l2.u (n : Nat) (v : Z33.l2.s.V) (K : X -> St -> Prop) : Prop := Z33.l2 n v.1.2.1 v.1.2.2.1 v.2.1.1 (fun y0 y1 => K (.exit 0) ⟨[(1, .c (.int .i64 y0))], [(0, ⟨50, .sl 2 (.int .i64), y1, 99, none, []⟩)], [], [0], []⟩)
theorem Z33.l2_ok : LT X0 15 2 Z33.l2.s Z33.l2.u :=
 lt hX Tryz.f15 (by kernel_rfl) (fun _ _ h => h) (D83 hX) nL (fun n v K => by kernel_rfl)
theorem qOB : CT X0 15 Z33.a Z33.u :=
 ct hX Tryz.f15 (by kernel_rfl) (fun _ _ h => h) (D83 hX) (oL (Z33.l2_ok hX) nL) (fun n v K => by kernel_rfl)
def D84 : CS X0 := oC (qOB hX) (D83 hX)
abbrev Z29.a : List TS := [.c (.o (.dat 2 (.int .i64))), .c (.o (.int .i64))]
def Z29.u (n : Nat) (v : VA Z29.a) (K : RES -> Prop) : Prop := Z29.c n v.1 v.2.1 (fun r0 => K ⟨.c (.int .i64 r0), []⟩)
abbrev Z29.l2.s : ST := ⟨[(0, .c (.o (.dat 2 (.int .i64)))), (1, .c (.o (.int .i64))), (5, .c (.o (.int .i64)))], [], [], [], []⟩
def Z29.l2.u (n : Nat) (v : Z29.l2.s.V) (K : X -> St -> Prop) : Prop := Z29.l2 n v.1.1 v.1.2.1 v.1.2.2.1 (fun y0 => K (.exit 0) ⟨[(1, .c (.int .i64 y0))], [], [], [], []⟩) (fun y0 => K .ret ⟨[(4, .c (.int .i64 y0))], [], [], [], []⟩)
theorem Z29.l2_ok : LT X0 34 2 Z29.l2.s Z29.l2.u :=
 lt hX Tryz.f34 (by kernel_rfl) (fun _ _ h => h) (D84 hX) nL (fun n v K => by kernel_rfl)
theorem qOI : CT X0 34 Z29.a Z29.u :=
 ct hX Tryz.f34 (by kernel_rfl) (fun _ _ h => h) (D84 hX) (oL (Z29.l2_ok hX) nL) (fun n v K => by kernel_rfl)
def D85 : CS X0 := oC (qOI hX) (D84 hX)
abbrev Z30.a : List TS := [.c (.o (.dat 50 (.sl 2 (.int .i64)))), .c (.o (.int .i64))]
def Z30.u (n : Nat) (v : VA Z30.a) (K : RES -> Prop) : Prop := Z30.c n v.1 v.2.1 (fun r0 => K ⟨.c (.int .i64 r0), []⟩)
abbrev Z30.l2.s : ST := ⟨[(0, .c (.o (.dat 50 (.sl 2 (.int .i64))))), (1, .c (.o (.int .i64))), (5, .c (.o (.int .i64)))], [], [], [], []⟩
def Z30.l2.u (n : Nat) (v : Z30.l2.s.V) (K : X -> St -> Prop) : Prop := Z30.l2 n v.1.1 v.1.2.1 v.1.2.2.1 (fun y0 => K (.exit 0) ⟨[(1, .c (.int .i64 y0))], [], [], [], []⟩) (fun y0 => K .ret ⟨[(4, .c (.int .i64 y0))], [], [], [], []⟩)
theorem Z30.l2_ok : LT X0 16 2 Z30.l2.s Z30.l2.u :=
 lt hX Tryz.f16 (by kernel_rfl) (fun _ _ h => h) (D85 hX) nL (fun n v K => by kernel_rfl)
theorem qOG : CT X0 16 Z30.a Z30.u :=
 ct hX Tryz.f16 (by kernel_rfl) (fun _ _ h => h) (D85 hX) (oL (Z30.l2_ok hX) nL) (fun n v K => by kernel_rfl)
def D86 : CS X0 := oC (qOG hX) (D85 hX)
abbrev laws_FnExactParts.a : List TS := [.c (.o (.dat 42 Y8)), .c (.o (.dat 48 Y1))]
def laws_FnExactParts.u (n : Nat) (v : VA laws_FnExactParts.a) (K : RES -> Prop) : Prop := laws_FnExactParts.c n v.1 v.2.1 (fun r0 => K ⟨.c (.bool r0), []⟩)
abbrev laws_FnExactParts.q22.s : ST := ⟨[(0, .c (.o (.dat 42 Y8))), (1, .c (.o (.dat 48 Y1))), (6, .c (.o (.own 1024))), (7, .c (.o .bool)), (10, .c (.o (.own 1344))), (82, .c (.o .bool))], [⟨1024, 50, .sl 2 (.int .i64), 99, false⟩, ⟨1344, 50, .sl 2 (.int .i64), 99, false⟩], [], [], []⟩
def laws_FnExactParts.q22.u (n : Nat) (v : laws_FnExactParts.q22.s.V) (K : X -> St -> Prop) : Prop := laws_FnExactParts.q22 n v.1.1 v.1.2.1 v.1.2.2.2.1 v.1.2.2.2.2.2.1 v.2.1.1 v.2.1.2.1 (fun y0 => K .ret ⟨[(4, .c (.bool y0))], [], [], [], []⟩) (fun y0 y1 y2 y3 y4 => K .normal ⟨[(0, .c (.dat 42 Y8 y0)), (1, .c (.dat 48 Y1 y1)), (6, .c (.own 1024)), (7, .c (.bool y2)), (10, .c (.own 1344))], [(1024, ⟨50, .sl 2 (.int .i64), y3, 99, none, []⟩), (1344, ⟨50, .sl 2 (.int .i64), y4, 99, none, []⟩)], [], [], []⟩)
abbrev laws_FnExactParts.q14.s : ST := ⟨[(0, .c (.o (.dat 42 Y8))), (1, .c (.o (.dat 48 Y1))), (6, .c (.o (.own 1024))), (7, .c (.o .bool)), (8, .c (.o (.own 1152))), (9, .c (.o (.own 1216))), (10, .c (.o (.own 1344))), (11, .c (.o .bool))], [⟨1024, 50, .sl 2 (.int .i64), 99, false⟩, ⟨1152, 59, .prod .str (.int .i64), 99, false⟩, ⟨1216, 56, .prod (.int .i64) Y3, 99, false⟩, ⟨1344, 50, .sl 2 (.int .i64), 99, false⟩], [], [], []⟩
def laws_FnExactParts.q14.u (n : Nat) (v : laws_FnExactParts.q14.s.V) (K : X -> St -> Prop) : Prop := laws_FnExactParts.q14 n v.1.1 v.1.2.1 v.1.2.2.2.1 v.1.2.2.2.2.2.2.2.1 v.2.1.1 v.2.1.2.1 v.2.1.2.2.1 v.2.1.2.2.2.1 (fun y0 => K .ret ⟨[(4, .c (.bool y0))], [], [], [], []⟩)
theorem laws_FnExactParts.q22_ok : LT X0 3 1000022 laws_FnExactParts.q22.s laws_FnExactParts.q22.u :=
 cu hX Tryz.f3 (by kernel_rfl) (fun _ _ h => h) (D86 hX) nL (fun n v K => by kernel_rfl)
theorem laws_FnExactParts.q14_ok : LT X0 3 1000014 laws_FnExactParts.q14.s laws_FnExactParts.q14.u :=
 cu hX Tryz.f3 (by kernel_rfl) (fun _ _ h => h) (D86 hX) (oL (laws_FnExactParts.q22_ok hX) nL) (fun n v K => by kernel_rfl)
theorem laws_FnExactParts_ok : CT X0 3 laws_FnExactParts.a laws_FnExactParts.u :=
 ct hX Tryz.f3 (by kernel_rfl) (fun _ _ h => h) (D86 hX) (oL (laws_FnExactParts.q14_ok hX) nL) (fun n v K => by kernel_rfl)
def D87 : CS X0 := oC (laws_FnExactParts_ok hX) (D86 hX)
end
end Go.Vsi
end
