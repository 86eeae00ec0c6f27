/- Each told function is what the machine comes to. No statement is proved here. -/
import Derived.Test.YtfmjhfijkdlidaaM3
import Derived.Test.YtfmjhfijkdlidaaA1
import Derived.Test.YtfmjhfijkdlidaaProg
import Derived.KernelRfl
set_option linter.unusedVariables false
set_option linter.unusedSimpArgs false

section
namespace Go.Vsi
abbrev Y13 : Ty := .prod .str (.int .i64)
abbrev Y12 : Ty := .prod .str (.sl 2 (.int .i64))
abbrev Y11 : Ty := .prod (.sl 5 (.int .u8)) (.int .i64)
abbrev Y10 : Ty := .prod (.int .i64) (.sl 91 (.int .u64))
abbrev Y9 : Ty := .prod (.int .i64) (.prod (.int .i64) (.prod .bool (.int .u8)))
abbrev Y8 : Ty := .prod (.sl 140 Y12) (.sl 3 (.int .i64))
abbrev Y7 : Ty := .prod (.int .i64) (.prod (.int .i64) (.prod (.int .i64) (.prod (.int .i64) (.prod (.sl 91 (.int .u64)) (.sl 2 (.int .i64))))))
abbrev Y6 : Ty := .prod (.int .i64) Y7
abbrev Y5 : Ty := .prod (.sl 84 Y6) (.sl 2 (.int .i64))
abbrev Y4 : Ty := .prod .bool (.prod (.sl 84 Y6) (.sl 84 Y6))
abbrev Y3 : Ty := .prod (.int .i64) Y4
abbrev Y2 : Ty := .prod (.int .i64) (.sl 61 Y3)
abbrev Y1 : Ty := .prod (.sl 34 Y13) (.prod (.sl 52 Y2) (.int .i64))
open Go.Proofs
def tu : TI := ⟨false, 1, 8, [.undef], none, none, [], []⟩
def tis : List (Nat × TI) := [
(1, tu),
(2, ⟨false, 1, 8, [.int .i64 0], some (.int .i64), none, [], []⟩),
(3, ⟨false, 1, 8, [.int .i64 0], some (.int .i64), none, [], []⟩),
(4, ⟨false, 1, 1, [.bool false], some (.bool), none, [], []⟩),
(5, ⟨false, 1, 1, [.int .u8 0], some (.int .u8), none, [], []⟩),
(6, ⟨false, 1, 1, [.int .u8 0], some (.int .u8), none, [], []⟩),
(7, ⟨true, 4, 24, [.int .i64 0, .int .i64 0, .bool false, .int .u8 0], some Y9, none, [(0, 2), (1, 3), (2, 4), (3, 6)], []⟩),
(8, ⟨true, 4, 24, [.int .i64 0, .int .i64 0, .bool false, .int .u8 0], some Y9, none, [(0, 2), (1, 3), (2, 4), (3, 6)], []⟩),
(9, ⟨false, 1, 16, [.str []], some (.str), none, [], []⟩),
(10, ⟨false, 1, 16, [.str []], some (.str), none, [], []⟩),
(11, ⟨false, 1, 16, [.str []], some (.str), none, [], []⟩),
(12, ⟨false, 1, 8, [.int .u64 0], some (.int .u64), none, [], []⟩),
(13, ⟨true, 2, 24, [.str [], .int .u64 0], some (.prod .str (.int .u64)), none, [(0, 9), (1, 12)], []⟩),
(14, ⟨true, 2, 24, [.str [], .int .u64 0], some (.prod .str (.int .u64)), none, [(0, 9), (1, 12)], []⟩),
(15, tu),
(16, tu),
(17, tu),
(18, ⟨true, 1, 8, [.undef], none, none, [(0, 17)], []⟩),
(19, ⟨true, 1, 8, [.undef], none, none, [(0, 17)], []⟩),
(20, ⟨false, 1, 16, [.undef], none, none, [], []⟩),
(21, ⟨false, 1, 4, [.int .i32 0], some (.int .i32), none, [], []⟩),
(22, ⟨false, 1, 24, [.emp 5 (.int .u8)], some (.sl 5 (.int .u8)), some 5, [], []⟩),
(23, tu),
(24, ⟨false, 1, 24, [.emp 34 Y13], some (.sl 34 Y13), some 34, [], []⟩),
(25, ⟨false, 1, 24, [.emp 52 Y2], some (.sl 52 Y2), some 52, [], []⟩),
(26, ⟨true, 3, 56, [.emp 34 Y13, .emp 52 Y2, .int .i64 0], some Y1, none, [(0, 24), (1, 25), (2, 2)], []⟩),
(27, ⟨true, 3, 56, [.emp 34 Y13, .emp 52 Y2, .int .i64 0], some Y1, none, [(0, 24), (1, 25), (2, 2)], []⟩),
(29, tu),
(31, tu),
(32, tu),
(33, ⟨true, 2, 24, [.str [], .int .i64 0], some Y13, none, [(0, 9), (1, 2)], []⟩),
(34, ⟨true, 2, 24, [.str [], .int .i64 0], some Y13, none, [(0, 9), (1, 2)], [.str, .int .i64]⟩),
(35, tu),
(36, tu),
(37, tu),
(38, tu),
(39, tu),
(40, tu),
(41, ⟨false, 1, 24, [.emp 9 .str], some (.sl 9 .str), some 9, [], []⟩),
(42, tu),
(43, ⟨false, 1, 24, [.emp 2 (.int .i64)], some (.sl 2 (.int .i64)), some 2, [], []⟩),
(44, tu),
(45, tu),
(46, tu),
(47, tu),
(48, tu),
(49, tu),
(50, ⟨false, 1, 24, [.emp 61 Y3], some (.sl 61 Y3), some 61, [], []⟩),
(51, ⟨true, 2, 32, [.int .i64 0, .emp 61 Y3], some Y2, none, [(0, 2), (1, 50)], []⟩),
(52, ⟨true, 2, 32, [.int .i64 0, .emp 61 Y3], some Y2, none, [(0, 2), (1, 50)], []⟩),
(53, tu),
(54, tu),
(55, tu),
(56, tu),
(57, ⟨false, 1, 24, [.emp 84 Y6], some (.sl 84 Y6), some 84, [], []⟩),
(58, ⟨true, 1, 24, [.emp 84 Y6], some (.sl 84 Y6), none, [(0, 57)], []⟩),
(59, ⟨true, 1, 24, [.emp 84 Y6], some (.sl 84 Y6), none, [(0, 57)], []⟩),
(60, ⟨true, 4, 64, [.int .i64 0, .bool false, .emp 84 Y6, .emp 84 Y6], some Y3, none, [(0, 2), (1, 4), (2, 59), (3, 59)], []⟩),
(61, ⟨true, 4, 64, [.int .i64 0, .bool false, .emp 84 Y6, .emp 84 Y6], some Y3, none, [(0, 2), (1, 4), (2, 59), (3, 59)], []⟩),
(62, ⟨true, 2, 32, [.emp 5 (.int .u8), .int .i64 0], some Y11, none, [(0, 22), (1, 3)], []⟩),
(63, ⟨true, 2, 32, [.emp 5 (.int .u8), .int .i64 0], some Y11, none, [(0, 22), (1, 3)], []⟩),
(64, tu),
(65, tu),
(66, tu),
(68, tu),
(69, tu),
(70, tu),
(71, tu),
(72, tu),
(73, tu),
(74, tu),
(75, tu),
(76, tu),
(77, tu),
(78, tu),
(79, tu),
(80, ⟨false, 1, 24, [.emp 91 (.int .u64)], some (.sl 91 (.int .u64)), some 91, [], []⟩),
(81, ⟨true, 2, 32, [.int .i64 0, .emp 91 (.int .u64)], some Y10, none, [(0, 2), (1, 80)], []⟩),
(82, ⟨true, 2, 32, [.int .i64 0, .emp 91 (.int .u64)], some Y10, none, [(0, 2), (1, 80)], []⟩),
(83, ⟨true, 7, 88, [.int .i64 0, .int .i64 0, .int .i64 0, .int .i64 0, .int .i64 0, .emp 91 (.int .u64), .emp 2 (.int .i64)], some Y6, none, [(0, 2), (1, 2), (2, 2), (3, 2), (4, 82), (6, 43)], []⟩),
(84, ⟨true, 7, 88, [.int .i64 0, .int .i64 0, .int .i64 0, .int .i64 0, .int .i64 0, .emp 91 (.int .u64), .emp 2 (.int .i64)], some Y6, none, [(0, 2), (1, 2), (2, 2), (3, 2), (4, 82), (6, 43)], []⟩),
(85, tu),
(87, tu),
(88, tu),
(89, tu),
(90, tu),
(91, ⟨false, 1, 8, [.int .u64 0], some (.int .u64), none, [], []⟩),
(92, tu),
(93, ⟨false, 1, 8, [.int .u64 0], some (.int .u64), none, [], []⟩),
(94, tu),
(95, tu),
(96, tu),
(98, tu),
(99, tu),
(100, tu),
(101, ⟨false, 1, 24, [.emp 140 Y12], some (.sl 140 Y12), some 140, [], []⟩),
(102, ⟨true, 1, 24, [.emp 140 Y12], some (.sl 140 Y12), none, [(0, 101)], []⟩),
(103, ⟨true, 1, 24, [.emp 140 Y12], some (.sl 140 Y12), none, [(0, 101)], []⟩),
(105, tu),
(106, tu),
(107, tu),
(108, tu),
(109, tu),
(110, tu),
(111, ⟨false, 1, 24, [.emp 4 .bool], some (.sl 4 .bool), some 4, [], []⟩),
(112, tu),
(113, tu),
(114, tu),
(115, tu),
(117, tu),
(118, tu),
(119, tu),
(120, tu),
(121, ⟨false, 1, 24, [.emp 3 (.int .i64)], some (.sl 3 (.int .i64)), some 3, [], []⟩),
(122, ⟨true, 2, 48, [.emp 140 Y12, .emp 3 (.int .i64)], some Y8, none, [(0, 103), (1, 121)], []⟩),
(123, ⟨true, 2, 48, [.emp 140 Y12, .emp 3 (.int .i64)], some Y8, none, [(0, 103), (1, 121)], []⟩),
(124, tu),
(125, tu),
(127, tu),
(128, tu),
(129, ⟨true, 2, 48, [.emp 84 Y6, .emp 2 (.int .i64)], some Y5, none, [(0, 59), (1, 43)], []⟩),
(130, ⟨true, 2, 48, [.emp 84 Y6, .emp 2 (.int .i64)], some Y5, none, [(0, 59), (1, 43)], []⟩),
(131, tu),
(132, tu),
(133, tu),
(134, tu),
(135, tu),
(136, tu),
(137, tu),
(138, tu),
(139, ⟨true, 2, 40, [.str [], .emp 2 (.int .i64)], some Y12, none, [(0, 9), (1, 43)], []⟩),
(140, ⟨true, 2, 40, [.str [], .emp 2 (.int .i64)], some Y12, none, [(0, 9), (1, 43)], []⟩),
(141, tu),
(142, tu),
(143, tu),
(144, tu),
(145, tu),
(146, tu),
(147, tu),
(148, tu),
(149, ⟨true, 4, 40, [.undef, .undef, .undef, .undef], none, none, [(0, 17), (1, 17), (2, 17), (3, 9)], []⟩),
(150, ⟨true, 4, 40, [.undef, .undef, .undef, .undef], none, none, [(0, 17), (1, 17), (2, 17), (3, 9)], []⟩),
(151, ⟨true, 0, 0, [], none, none, [], []⟩),
(152, ⟨true, 0, 0, [], none, none, [(0, 151)], []⟩),
(153, ⟨true, 0, 0, [], none, none, [(0, 151)], []⟩),
(154, ⟨false, 1, 4, [.int .u32 0], some (.int .u32), none, [], []⟩),
(155, ⟨false, 1, 1, [.int .u8 0], some (.int .u8), none, [], []⟩),
(156, ⟨false, 1, 1, [.int .u8 0], some (.int .u8), none, [], []⟩),
(157, tu),
(158, tu),
(159, ⟨false, 1, 4, [.int .i32 0], some (.int .i32), none, [], []⟩),
(160, ⟨false, 1, 4, [.int .i32 0], some (.int .i32), none, [], []⟩),
(161, ⟨true, 11, 48, [.undef, .undef, .undef, .undef, .undef, .undef, .undef, .undef, .undef, .undef, .undef], none, none, [(0, 12), (1, 12), (2, 154), (3, 155), (4, 5), (5, 5), (6, 156), (7, 157), (8, 158), (9, 159), (10, 160)], []⟩),
(162, ⟨true, 11, 48, [.undef, .undef, .undef, .undef, .undef, .undef, .undef, .undef, .undef, .undef, .undef], none, none, [(0, 12), (1, 12), (2, 154), (3, 155), (4, 5), (5, 5), (6, 156), (7, 157), (8, 158), (9, 159), (10, 160)], []⟩),
(163, tu),
(164, tu)]
noncomputable def fns : List (Nat × Func) := [(3, Try.f3), (4, Try.f4), (5, Try.f5), (6, Try.f6), (7, Try.f7), (8, Try.f8), (9, Try.f9), (10, Try.f10), (11, Try.f11), (12, Try.f12), (13, Try.f13), (14, Try.f14), (15, Try.f15), (16, Try.f16), (17, Try.f17), (18, Try.f18), (19, Try.f19), (20, Try.f20), (21, Try.f21), (22, Try.f22), (23, Try.f23), (24, Try.f24), (25, Try.f25), (26, Try.f26), (27, Try.f27), (28, Try.f28), (29, Try.f29), (30, Try.f30), (31, Try.f31), (32, Try.f32), (33, Try.f33), (34, Try.f34), (35, Try.f35), (36, Try.f36), (37, Try.f37), (38, Try.f38), (39, Try.f39), (40, Try.f40), (41, Try.f41), (42, Try.f42), (43, Try.f43), (44, Try.f44), (45, Try.f45), (46, Try.f46), (47, Try.f47), (48, Try.f48), (49, Try.f49), (50, Try.f50), (51, Try.f51), (52, Try.f52), (53, Try.f53), (54, Try.f54), (55, Try.f55), (56, Try.f56), (57, Try.f57), (58, Try.f58), (59, Try.f59), (60, Try.f60), (61, Try.f61), (62, Try.f62), (63, Try.f63), (64, Try.f64), (65, Try.f65), (66, Try.f66), (67, Try.f67), (68, Try.f68), (69, Try.f69), (70, Try.f70), (71, Try.f71), (72, Try.f72), (73, Try.f73), (74, Try.f74), (75, Try.f75), (76, Try.f76), (77, Try.f77), (78, Try.f78), (79, Try.f79), (80, Try.f80), (81, Try.f81), (82, Try.f82), (83, Try.f83), (84, Try.f84), (85, Try.f85), (86, Try.f86), (87, Try.f87), (88, Try.f88), (89, Try.f89), (90, Try.f90), (91, Try.f91), (92, Try.f92), (93, Try.f93), (94, Try.f94), (95, Try.f95), (96, Try.f96), (97, Try.f97), (98, Try.f98), (99, Try.f99)]
def fis : List (Nat × Fi) := [
(5, ⟨[], [none, none], []⟩),
(8, ⟨[], [], [(4, ⟨⟨[2, 3, 5], []⟩, [(0, ⟨[2, 3], []⟩)], ⟨[4], []⟩⟩), (9, ⟨⟨[2, 3, 6], []⟩, [(2, ⟨[], []⟩)], ⟨[4], []⟩⟩)]⟩),
(9, ⟨[], [], [(5, ⟨⟨[1, 3, 34, 35, 36], []⟩, [(0, ⟨[1], []⟩)], ⟨[2], []⟩⟩), (12, ⟨⟨[1, 62, 63, 64], []⟩, [(2, ⟨[1], []⟩)], ⟨[2], []⟩⟩), (21, ⟨⟨[1, 8, 83, 84, 85], []⟩, [(4, ⟨[], []⟩)], ⟨[2], []⟩⟩)]⟩),
(11, ⟨[1], [none, none], [(3, ⟨⟨[0, 2, 3, 4], [(1000003, 0, .own 0), (1000003, 1, .own 99)]⟩, [(0, ⟨[0, 2, 3], []⟩)], ⟨[2], []⟩⟩), (34, ⟨⟨[0, 2, 3], [(1000003, 1, .own 99)]⟩, [(4, ⟨[2, 3], []⟩)], ⟨[2], []⟩⟩), (1000004, ⟨⟨[0, 2, 3, 4], []⟩, [(1000000, ⟨[0, 2, 3, 4], []⟩)], ⟨[2], []⟩⟩), (1000013, ⟨⟨[0, 2, 3, 4, 5, 6, 17, 44], []⟩, [(1000000, ⟨[0, 2, 3, 4, 5, 6], []⟩)], ⟨[2], []⟩⟩), (1000019, ⟨⟨[0, 2, 3, 4, 5, 6], []⟩, [(1000000, ⟨[0, 2, 3, 4], []⟩)], ⟨[2], []⟩⟩)]⟩),
(12, ⟨[1], [], []⟩),
(13, ⟨[1], [], []⟩),
(14, ⟨[1], [], []⟩),
(15, ⟨[], [], [(5, ⟨⟨[1, 3, 4], []⟩, [(0, ⟨[1, 3], []⟩)], ⟨[2], []⟩⟩), (12, ⟨⟨[1, 3, 5, 6, 7], []⟩, [(2, ⟨[1, 5, 6], []⟩)], ⟨[2], []⟩⟩), (21, ⟨⟨[1, 3, 5, 6, 7, 9, 10], []⟩, [(4, ⟨[1, 3, 5, 6, 7, 9], []⟩)], ⟨[2], []⟩⟩)]⟩),
(16, ⟨[], [], [(3, ⟨⟨[1, 2, 3, 4], [(1000003, 1, .own 99)]⟩, [(0, ⟨[2, 3], []⟩)], ⟨[2], []⟩⟩)]⟩),
(17, ⟨[], [], [(4, ⟨⟨[0, 3], []⟩, [(0, ⟨[], []⟩)], ⟨[2], []⟩⟩)]⟩),
(18, ⟨[], [], [(2, ⟨⟨[0, 1, 5], []⟩, [(0, ⟨[], []⟩)], ⟨[4], []⟩⟩)]⟩),
(20, ⟨[], [], [(5, ⟨⟨[0, 3, 4], []⟩, [(0, ⟨[3], []⟩)], ⟨[2], []⟩⟩), (10, ⟨⟨[0, 3, 4, 5], []⟩, [(2, ⟨[0, 3, 4], []⟩)], ⟨[2], []⟩⟩)]⟩),
(21, ⟨[], [], [(3, ⟨⟨[2, 3, 17, 18, 19], []⟩, [(0, ⟨[2, 3], []⟩)], ⟨[2], []⟩⟩), (1000002, ⟨⟨[1, 2, 3], []⟩, [(1000000, ⟨[2], []⟩)], ⟨[2], []⟩⟩)]⟩),
(22, ⟨[], [], [(4, ⟨⟨[0, 3], []⟩, [(0, ⟨[], []⟩)], ⟨[2], []⟩⟩)]⟩),
(25, ⟨[], [], [(3, ⟨⟨[3, 6, 7, 8], []⟩, [(0, ⟨[3], []⟩)], ⟨[2], []⟩⟩)]⟩),
(26, ⟨[], [], [(4, ⟨⟨[0, 1, 5], []⟩, [(0, ⟨[], []⟩)], ⟨[4], []⟩⟩)]⟩),
(27, ⟨[], [], [(5, ⟨⟨[0, 3, 9, 10, 11], []⟩, [(0, ⟨[3], []⟩)], ⟨[2], []⟩⟩)]⟩),
(28, ⟨[], [], [(5, ⟨⟨[0, 5, 12, 13, 14], []⟩, [(0, ⟨[], []⟩)], ⟨[4], []⟩⟩)]⟩),
(30, ⟨[], [some 1], [(3, ⟨⟨[3, 10, 11, 12], [(3, 0, .own 1)]⟩, [(0, ⟨[3], []⟩)], ⟨[2], []⟩⟩)]⟩),
(32, ⟨[1], [], []⟩),
(35, ⟨[1], [], []⟩),
(36, ⟨[], [], [(1000010, ⟨⟨[1, 4, 8, 11, 12, 15], []⟩, [(1000000, ⟨[8, 9, 10], []⟩)], ⟨[8, 9, 10], []⟩⟩)]⟩),
(38, ⟨[1], [], []⟩),
(39, ⟨[1], [], []⟩),
(40, ⟨[], [], [(4, ⟨⟨[0, 1, 5], []⟩, [(0, ⟨[], []⟩)], ⟨[4], []⟩⟩)]⟩),
(41, ⟨[], [], [(3, ⟨⟨[0, 3, 4], [(3, 0, .own 99)]⟩, [(0, ⟨[3], []⟩)], ⟨[2], []⟩⟩)]⟩),
(44, ⟨[], [], [(3, ⟨⟨[3, 9, 10, 11], []⟩, [(0, ⟨[3], []⟩)], ⟨[2], []⟩⟩)]⟩),
(45, ⟨[], [], [(2, ⟨⟨[0, 1, 7, 8], []⟩, [(0, ⟨[], []⟩)], ⟨[4], []⟩⟩)]⟩),
(47, ⟨[], [], [(4, ⟨⟨[2, 3, 5], []⟩, [(0, ⟨[], []⟩)], ⟨[4], []⟩⟩)]⟩),
(49, ⟨[1], [], [(5, ⟨⟨[0, 1, 2, 6, 7, 8, 9, 10], [(7, 0, .own 99)]⟩, [(0, ⟨[1, 2, 6, 7, 8], [(7, 0, .own 99)]⟩)], ⟨[6], []⟩⟩), (1000034, ⟨⟨[0, 1, 2, 6, 7, 8, 9, 10, 13, 65, 117], []⟩, [(1000000, ⟨[0, 1, 2, 6, 7, 8, 9, 10, 13], []⟩)], ⟨[6], []⟩⟩)]⟩),
(51, ⟨[2], [], []⟩),
(53, ⟨[], [], [(3, ⟨⟨[1, 3, 4], [(3, 0, .own 99)]⟩, [(0, ⟨[3], []⟩)], ⟨[2], []⟩⟩)]⟩),
(54, ⟨[], [], [(3, ⟨⟨[0, 3, 5, 6], [(5, 0, .own 99)]⟩, [(0, ⟨[5], []⟩)], ⟨[4], []⟩⟩), (18, ⟨⟨[0, 3, 5, 6, 7, 8, 9], []⟩, [(3, ⟨[0, 3, 5, 6, 8], []⟩)], ⟨[4], []⟩⟩)]⟩),
(55, ⟨[], [], [(13, ⟨⟨[0, 4, 7, 8, 9], []⟩, [(1, ⟨[8], []⟩)], ⟨[6], []⟩⟩)]⟩),
(56, ⟨[1], [], [(3, ⟨⟨[0, 3, 4], []⟩, [(0, ⟨[3], []⟩)], ⟨[2], []⟩⟩)]⟩),
(57, ⟨[], [], [(3, ⟨⟨[1, 2, 3, 4], [(1000003, 0, .own 99)]⟩, [(0, ⟨[2, 3], []⟩)], ⟨[2], []⟩⟩)]⟩),
(58, ⟨[], [], [(3, ⟨⟨[2, 3, 12, 13, 14], []⟩, [(0, ⟨[2, 3], []⟩)], ⟨[2], []⟩⟩)]⟩),
(59, ⟨[], [], [(4, ⟨⟨[2, 3, 5], []⟩, [(0, ⟨[], []⟩)], ⟨[4], []⟩⟩)]⟩),
(60, ⟨[], [], [(4, ⟨⟨[0, 1, 5], []⟩, [(0, ⟨[], []⟩)], ⟨[4], []⟩⟩)]⟩),
(61, ⟨[], [], [(6, ⟨⟨[0, 3, 6, 7, 8, 29, 30], []⟩, [(0, ⟨[6, 7, 8], []⟩)], ⟨[4, 5], []⟩⟩), (13, ⟨⟨[0, 3, 6, 7, 8, 9, 10, 11, 29, 30, 52, 53, 54], []⟩, [(2, ⟨[0, 3, 6, 7, 8, 9, 10, 11, 29, 30], []⟩)], ⟨[4, 5], []⟩⟩)]⟩),
(62, ⟨[1], [], [(5, ⟨⟨[1, 4, 5, 6, 7, 8], [(5, 0, .own 99)]⟩, [(0, ⟨[4, 5], []⟩)], ⟨[4], []⟩⟩)]⟩),
(63, ⟨[], [], [(5, ⟨⟨[0, 5, 6, 7], []⟩, [(0, ⟨[0, 5, 6], []⟩)], ⟨[4], []⟩⟩), (8, ⟨⟨[0, 5, 6, 7, 8], []⟩, [(2, ⟨[0, 5, 6, 7], []⟩)], ⟨[4], []⟩⟩), (13, ⟨⟨[0, 5, 6, 9, 10], [(9, 0, .own 99)]⟩, [(4, ⟨[9], []⟩)], ⟨[4], []⟩⟩), (18, ⟨⟨[0, 5, 6, 9, 10, 11, 12], []⟩, [(6, ⟨[0, 5, 6, 9, 10, 11], []⟩)], ⟨[4], []⟩⟩)]⟩),
(64, ⟨[], [], [(7, ⟨⟨[0, 3, 5, 6, 7, 8], [(6, 0, .own 99)]⟩, [(0, ⟨[5, 6, 7], []⟩)], ⟨[4], []⟩⟩), (16, ⟨⟨[0, 3, 5, 6, 7, 8, 10], []⟩, [(2, ⟨[0, 3, 5, 6, 7, 8], []⟩)], ⟨[4], []⟩⟩), (20, ⟨⟨[5, 6, 7, 11], []⟩, [(4, ⟨[6], []⟩)], ⟨[4], []⟩⟩)]⟩),
(65, ⟨[], [], [(5, ⟨⟨[0, 2, 5, 6], [(1000015, 0, .own 99), (1000015, 1, .own 99)]⟩, [(0, ⟨[0, 2, 5], []⟩)], ⟨[2, 3, 4], []⟩⟩), (15, ⟨⟨[0, 2, 5, 6, 8, 9], []⟩, [(3, ⟨[0, 2, 5, 6, 8, 9], []⟩)], ⟨[2, 3, 4], []⟩⟩), (1000012, ⟨⟨[0, 2, 5, 6, 7, 8, 9, 34], []⟩, [(1000000, ⟨[0, 2, 5, 6, 8, 9], []⟩)], ⟨[2, 3, 4], []⟩⟩)]⟩),
(66, ⟨[], [], [(11, ⟨⟨[0, 6, 9, 12, 13, 14], [(13, 0, .own 99)]⟩, [(0, ⟨[6, 12], []⟩)], ⟨[6, 7, 8], []⟩⟩)]⟩),
(67, ⟨[], [], [(8, ⟨⟨[1, 3, 4, 5], [(4, 0, .own 99)]⟩, [(0, ⟨[4], []⟩)], ⟨[2], []⟩⟩)]⟩),
(70, ⟨[], [], [(4, ⟨⟨[0, 3], []⟩, [(0, ⟨[3], []⟩)], ⟨[2], []⟩⟩)]⟩),
(73, ⟨[], [], [(11, ⟨⟨[8, 80, 81, 82], []⟩, [(1, ⟨[8], []⟩)], ⟨[6], []⟩⟩), (1000005, ⟨⟨[0, 1, 2, 7, 17], []⟩, [(1000000, ⟨[], []⟩)], ⟨[6], []⟩⟩), (1000009, ⟨⟨[0, 2, 7, 69], []⟩, [(1000000, ⟨[], []⟩)], ⟨[6], []⟩⟩), (1000021, ⟨⟨[0, 7, 137], []⟩, [(1000000, ⟨[], []⟩)], ⟨[6], []⟩⟩)]⟩),
(74, ⟨[], [], [(1000002, ⟨⟨[0, 3], []⟩, [(1000000, ⟨[2], []⟩)], ⟨[2], []⟩⟩), (1000003, ⟨⟨[0, 52], []⟩, [(1000000, ⟨[0], []⟩)], ⟨[2], []⟩⟩)]⟩),
(76, ⟨[], [], [(5, ⟨⟨[0, 2, 4, 5], []⟩, [(0, ⟨[2, 4], []⟩)], ⟨[2, 3], []⟩⟩)]⟩),
(77, ⟨[], [], [(2, ⟨⟨[0, 2, 4, 7], []⟩, [(0, ⟨[0, 4], []⟩)], ⟨[6], []⟩⟩), (1000007, ⟨⟨[0, 4, 63], []⟩, [(1000000, ⟨[0, 4], []⟩)], ⟨[6], []⟩⟩), (1000008, ⟨⟨[0, 4], []⟩, [(1000000, ⟨[6], []⟩)], ⟨[6], []⟩⟩)]⟩),
(78, ⟨[], [], [(3, ⟨⟨[0, 2, 4, 7, 8], []⟩, [(0, ⟨[0, 4, 7], []⟩)], ⟨[6], []⟩⟩)]⟩),
(79, ⟨[1], [], []⟩),
(80, ⟨[], [], [(1, ⟨⟨[0, 1], []⟩, [(0, ⟨[1], []⟩)], ⟨[4], []⟩⟩)]⟩),
(81, ⟨[], [], [(19, ⟨⟨[0, 2, 4, 12, 13, 14], []⟩, [(0, ⟨[0, 4, 12, 13], []⟩)], ⟨[6, 7], []⟩⟩), (24, ⟨⟨[0, 4, 12, 13, 15], []⟩, [(2, ⟨[], []⟩)], ⟨[6, 7], []⟩⟩)]⟩),
(82, ⟨[1], [], [(17, ⟨⟨[0, 1, 3, 6, 9, 11, 13], [(1000009, 6, .own 99)]⟩, [(0, ⟨[0, 3, 9], []⟩)], ⟨[8], []⟩⟩)]⟩),
(83, ⟨[], [], [(4, ⟨⟨[1, 3], []⟩, [(0, ⟨[], []⟩)], ⟨[2], []⟩⟩)]⟩),
(84, ⟨[], [], [(3, ⟨⟨[0, 3, 4], [(3, 0, .own 99)]⟩, [(0, ⟨[3], []⟩)], ⟨[2], []⟩⟩)]⟩),
(85, ⟨[], [], [(3, ⟨⟨[1, 3, 4], [(3, 0, .own 99)]⟩, [(0, ⟨[3], []⟩)], ⟨[2], []⟩⟩)]⟩),
(89, ⟨[], [], [(2, ⟨⟨[0, 1, 7, 8], []⟩, [(0, ⟨[], []⟩)], ⟨[4], []⟩⟩)]⟩),
(92, ⟨[], [], [(2, ⟨⟨[0, 3], []⟩, [(0, ⟨[0], []⟩)], ⟨[2], []⟩⟩)]⟩),
(93, ⟨[], [], [(5, ⟨⟨[0, 2, 4, 5], [(4, 0, .own 99)]⟩, [(0, ⟨[2, 4], []⟩)], ⟨[2, 3], []⟩⟩), (13, ⟨⟨[0, 2, 4, 5, 6, 7], [(4, 0, .own 99)]⟩, [(2, ⟨[0, 2, 4, 5], []⟩)], ⟨[2, 3], []⟩⟩)]⟩),
(94, ⟨[], [], [(5, ⟨⟨[2, 5, 6], []⟩, [(0, ⟨[], []⟩)], ⟨[4], []⟩⟩), (1000008, ⟨⟨[2, 5, 6], []⟩, [(1000000, ⟨[2, 5, 6], []⟩)], ⟨[4], []⟩⟩)]⟩),
(95, ⟨[], [], [(5, ⟨⟨[0, 1, 5, 6], []⟩, [(0, ⟨[1, 5], []⟩)], ⟨[4], []⟩⟩)]⟩)]
def fiF (f : Nat) : Fi := (qO f fis).getD ⟨[], [], []⟩
noncomputable def C : Ctx := { ti := fun t => qO t tis, fs := fun f => qO f fns, fi := fiF }
def bodyOf (f : Func) : Code := f.body.getD .skip
def qDQ (f : Func) (k : Nat) : Code := (qS k (bodyOf f)).getD .skip
def qNI (f : Func) (k : Nat) : Code := (jB k (bodyOf f)).getD .skip
def qMg (l : List (Nat × Li)) (k : Nat) : Li := (qO k l).getD ⟨⟨[], []⟩, [], ⟨[], []⟩⟩
theorem qNs : (tis.all fun x => tiB Try.prog x.1 x.2) = true := by kernel_rfl
theorem qMX : (fns.all fun x => fnB (fiF x.1) x.2) = true := by kernel_rfl
theorem fnp (f : Nat) (x : Func) (r : List (Nat × Func)) (h : Try.prog.funcs[f]? = some x) (hr : ∀ y ∈ r, Try.prog.funcs[y.1]? = some y.2) : ∀ y ∈ (f, x) :: r, Try.prog.funcs[y.1]? = some y.2 := List.forall_mem_cons.2 ⟨h, hr⟩
set_option maxRecDepth 100000 in
theorem qLH : ∀ x ∈ fns, Try.prog.funcs[x.1]? = some x.2 := (fnp _ _ _ Try.func3
(fnp _ _ _ Try.func4
(fnp _ _ _ Try.func5
(fnp _ _ _ Try.func6
(fnp _ _ _ Try.func7
(fnp _ _ _ Try.func8
(fnp _ _ _ Try.func9
(fnp _ _ _ Try.func10
(fnp _ _ _ Try.func11
(fnp _ _ _ Try.func12
(fnp _ _ _ Try.func13
(fnp _ _ _ Try.func14
(fnp _ _ _ Try.func15
(fnp _ _ _ Try.func16
(fnp _ _ _ Try.func17
(fnp _ _ _ Try.func18
(fnp _ _ _ Try.func19
(fnp _ _ _ Try.func20
(fnp _ _ _ Try.func21
(fnp _ _ _ Try.func22
(fnp _ _ _ Try.func23
(fnp _ _ _ Try.func24
(fnp _ _ _ Try.func25
(fnp _ _ _ Try.func26
(fnp _ _ _ Try.func27
(fnp _ _ _ Try.func28
(fnp _ _ _ Try.func29
(fnp _ _ _ Try.func30
(fnp _ _ _ Try.func31
(fnp _ _ _ Try.func32
(fnp _ _ _ Try.func33
(fnp _ _ _ Try.func34
(fnp _ _ _ Try.func35
(fnp _ _ _ Try.func36
(fnp _ _ _ Try.func37
(fnp _ _ _ Try.func38
(fnp _ _ _ Try.func39
(fnp _ _ _ Try.func40
(fnp _ _ _ Try.func41
(fnp _ _ _ Try.func42
(fnp _ _ _ Try.func43
(fnp _ _ _ Try.func44
(fnp _ _ _ Try.func45
(fnp _ _ _ Try.func46
(fnp _ _ _ Try.func47
(fnp _ _ _ Try.func48
(fnp _ _ _ Try.func49
(fnp _ _ _ Try.func50
(fnp _ _ _ Try.func51
(fnp _ _ _ Try.func52
(fnp _ _ _ Try.func53
(fnp _ _ _ Try.func54
(fnp _ _ _ Try.func55
(fnp _ _ _ Try.func56
(fnp _ _ _ Try.func57
(fnp _ _ _ Try.func58
(fnp _ _ _ Try.func59
(fnp _ _ _ Try.func60
(fnp _ _ _ Try.func61
(fnp _ _ _ Try.func62
(fnp _ _ _ Try.func63
(fnp _ _ _ Try.func64
(fnp _ _ _ Try.func65
(fnp _ _ _ Try.func66
(fnp _ _ _ Try.func67
(fnp _ _ _ Try.func68
(fnp _ _ _ Try.func69
(fnp _ _ _ Try.func70
(fnp _ _ _ Try.func71
(fnp _ _ _ Try.func72
(fnp _ _ _ Try.func73
(fnp _ _ _ Try.func74
(fnp _ _ _ Try.func75
(fnp _ _ _ Try.func76
(fnp _ _ _ Try.func77
(fnp _ _ _ Try.func78
(fnp _ _ _ Try.func79
(fnp _ _ _ Try.func80
(fnp _ _ _ Try.func81
(fnp _ _ _ Try.func82
(fnp _ _ _ Try.func83
(fnp _ _ _ Try.func84
(fnp _ _ _ Try.func85
(fnp _ _ _ Try.func86
(fnp _ _ _ Try.func87
(fnp _ _ _ Try.func88
(fnp _ _ _ Try.func89
(fnp _ _ _ Try.func90
(fnp _ _ _ Try.func91
(fnp _ _ _ Try.func92
(fnp _ _ _ Try.func93
(fnp _ _ _ Try.func94
(fnp _ _ _ Try.func95
(fnp _ _ _ Try.func96
(fnp _ _ _ Try.func97
(fnp _ _ _ Try.func98
(fnp _ _ _ Try.func99
(fun _ h => by cases h))))))))))))))))))))))))))))))))))))))))))))))))))))))))))))))))))))))))))))))))))))))))))))))))))
theorem C_ok : jT Try.prog C := qNJ qNs qLH
theorem C_fns : qGx Try.prog C := Go.Vsi.fns_ok qMX
theorem C_follows : Try.prog.follows .mixedOrders = true := by kernel_rfl
def CT (X0 : jG) (f : Nat) (A : List TS) (u : Nat -> VA A -> (RES -> Prop) -> Prop) : Prop := ∀ n v K, u n v K -> callM C X0 n f (qBy A v) K
def LT (X0 : jG) (f k : Nat) (T : ST) (u : Nat -> T.V -> (X -> St -> Prop) -> Prop) : Prop := ∀ n v K, u n v K -> kH C X0 n f k (T.fill v) K
structure CS (X0 : jG) where
 c : Nat -> jG
 ok : ∀ n g a K, c n g a K -> callM C X0 n g a K
structure LS (X0 : jG) (f : Nat) where
 l : Nat -> kY
 ok : ∀ n k st K, l n k st K -> kH C X0 n f k st K
def nL {X0 : jG} {f : Nat} : LS X0 f := ⟨fun _ => noL, fun _ => qBS⟩
def oL {X0 : jG} {f k : Nat} {T : ST} {u : Nat -> T.V -> (X -> St -> Prop) -> Prop} (h : LT X0 f k T u) (r : LS X0 f) : LS X0 f := ⟨fun n => orL k T (u n) (r.l n), fun n => qFF (h n) (r.ok n)⟩
def oC {X0 : jG} {f : Nat} {A : List TS} {u : Nat -> VA A -> (RES -> Prop) -> Prop} (h : CT X0 f A u) (d : CS X0) : CS X0 := ⟨fun n => orC f A (u n) (d.c n), fun n => qBR (h n) (d.ok n)⟩
def D0 {X0 : jG} (hX : jG.Mono X0) : CS X0 := ⟨fun _ => noC, fun _ => qNC⟩
theorem ct {X0 : jG} (hX : jG.Mono X0) {f : Nat} (fn : Func) {A : List TS} {u : Nat -> VA A -> (RES -> Prop) -> Prop} (e : (C.fs f, fn.body) = (some fn, some (bodyOf fn))) (h0 : ∀ v K, ¬ u 0 v K) (d : CS X0) (l : LS X0 f)
  (he : ∀ n v K, u (n + 1) v K = evC C (d.c n) fn.ntmps (C.fi f) (l.l n) (bodyOf fn) (enter (C.fi f).modes (qBy A v)) (qCc C fn (C.fi f) (qBy A v) K)) : CT X0 f A u :=
 qKy hX (congrArg Prod.fst e) (congrArg Prod.snd e) h0 d.ok l.ok he
theorem lt {X0 : jG} (hX : jG.Mono X0) {f k : Nat} (fn : Func) {T : ST} {u : Nat -> T.V -> (X -> St -> Prop) -> Prop}
  (e : (C.fs f, fn.body, decide (k < 1000000), qS k (bodyOf fn), qO k (C.fi f).loops) = (some fn, some (bodyOf fn), true, some (qDQ fn k), some (qMg (C.fi f).loops k))) (h0 : ∀ v K, ¬ u 0 v K) (d : CS X0) (l : LS X0 f)
  (he : ∀ n v K, u (n + 1) v K = evC C (d.c n) fn.ntmps (C.fi f) (l.l n) (qDQ fn k) (T.fill v) (qBQ (qMg (C.fi f).loops k) (qMk T fun v' => u n v' K) K)) : LT X0 f k T u :=
 qFQ hX (congrArg (·.1) e) (congrArg (·.2.1) e) (of_decide_eq_true (congrArg (·.2.2.1) e)) (congrArg (·.2.2.2.1) e) (congrArg (·.2.2.2.2) e) h0 d.ok l.ok he
theorem cu {X0 : jG} (hX : jG.Mono X0) {f k : Nat} (fn : Func) {T : ST} {u : Nat -> T.V -> (X -> St -> Prop) -> Prop}
  (e : (C.fs f, fn.body, decide (1000000 <= k), jB (k - 1000000) (bodyOf fn), qO k (C.fi f).loops) = (some fn, some (bodyOf fn), true, some (qNI fn (k - 1000000)), some (qMg (C.fi f).loops k))) (h0 : ∀ v K, ¬ u 0 v K) (d : CS X0) (l : LS X0 f)
  (he : ∀ n v K, u (n + 1) v K = evC C (d.c n) fn.ntmps (C.fi f) (l.l n) (qNI fn (k - 1000000)) (T.fill v) (qMq (qMg (C.fi f).loops k) K)) : LT X0 f k T u :=
 qLN hX (congrArg (·.1) e) (congrArg (·.2.1) e) (of_decide_eq_true (congrArg (·.2.2.1) e)) (congrArg (·.2.2.2.1) e) (congrArg (·.2.2.2.2) e) h0 d.ok l.ok he
end Go.Vsi
end

section
namespace Go.Vsi
open Go.Proofs
section
variable {X0 : jG} (hX : jG.Mono X0)
include hX
abbrev Z22.a : List TS := [.c (.o (.dat 5 (.int .u8)))]
def Z22.u (n : Nat) (v : VA Z22.a) (K : RES -> Prop) : Prop := Z22.c n v.1 (fun r0 => K ⟨.c (.bool r0), []⟩)
theorem qO9 : CT X0 4 Z22.a Z22.u :=
 ct hX Try.f4 (by kernel_rfl) (fun _ _ h => h) (D0 hX) nL (fun n v K => by kernel_rfl)
def D1 : CS X0 := oC (qO9 hX) (D0 hX)
abbrev Z61.a : List TS := [.c (.o (.dat 5 (.int .u8)))]
def Z61.u (n : Nat) (v : VA Z61.a) (K : RES -> Prop) : Prop := Z61.c n v.1 (fun r0 r1 => K ⟨.c (.boxr 63 [.dat 5 (.int .u8) r0, .int .i64 r1]), []⟩)
theorem qOs : CT X0 10 Z61.a Z61.u :=
 ct hX Try.f10 (by kernel_rfl) (fun _ _ h => h) (D1 hX) nL (fun n v K => by kernel_rfl)
def D2 : CS X0 := oC (qOs hX) (D1 hX)
abbrev Z35.a : List TS := []
def Z35.u (n : Nat) (v : VA Z35.a) (K : RES -> Prop) : Prop := Z35.c n  (fun r0 r1 r2 => K ⟨.agg [.row ⟨34, .prod .str (.int .i64), r0, 99, none⟩, .row ⟨52, .prod (.int .i64) (.sl 61 Y3), r1, 99, none⟩, .int .i64 r2], []⟩)
theorem qOS : CT X0 31 Z35.a Z35.u :=
 ct hX Try.f31 (by kernel_rfl) (fun _ _ h => h) (D2 hX) nL (fun n v K => by kernel_rfl)
def D3 : CS X0 := oC (qOS hX) (D2 hX)
abbrev Z65.a : List TS := [.c (.boxr 63 [.dat 5 (.int .u8), .int .i64])]
def Z65.u (n : Nat) (v : VA Z65.a) (K : RES -> Prop) : Prop := Z65.c n v.1.1 v.1.2.1 (fun r0 r1 r2 => K ⟨.c (.int .i64 r0), [[.boxr 63 [.dat 5 (.int .u8) r1, .int .i64 r2]]]⟩)
theorem qOo : CT X0 38 Z65.a Z65.u :=
 ct hX Try.f38 (by kernel_rfl) (fun _ _ h => h) (D3 hX) nL (fun n v K => by kernel_rfl)
def D4 : CS X0 := oC (qOo hX) (D3 hX)
abbrev Z62.a : List TS := [.c (.boxr 63 [.dat 5 (.int .u8), .int .i64]), .c (.o (.int .i64))]
def Z62.u (n : Nat) (v : VA Z62.a) (K : RES -> Prop) : Prop := Z62.c n v.1.1 v.1.2.1 v.2.1 (fun r0 r1 r2 => K ⟨.c (.int .i64 r0), [[.boxr 63 [.dat 5 (.int .u8) r1, .int .i64 r2]]]⟩)
theorem qOr : CT X0 12 Z62.a Z62.u :=
 ct hX Try.f12 (by kernel_rfl) (fun _ _ h => h) (D4 hX) nL (fun n v K => by kernel_rfl)
def D5 : CS X0 := oC (qOr hX) (D4 hX)
abbrev Z69.a : List TS := [.c (.boxr 63 [.dat 5 (.int .u8), .int .i64]), .c (.o (.int .i64)), .c (.o (.int .i64))]
def Z69.u (n : Nat) (v : VA Z69.a) (K : RES -> Prop) : Prop := Z69.c n v.1.1 v.1.2.1 v.2.1 v.2.2.1 (fun r0 r1 r2 => K ⟨.c (.int .i64 r0), [[.boxr 63 [.dat 5 (.int .u8) r1, .int .i64 r2]]]⟩)
theorem qOk : CT X0 32 Z69.a Z69.u :=
 ct hX Try.f32 (by kernel_rfl) (fun _ _ h => h) (D5 hX) nL (fun n v K => by kernel_rfl)
def D6 : CS X0 := oC (qOk hX) (D5 hX)
abbrev Z54.a : List TS := [.c (.o (.int .u8))]
def Z54.u (n : Nat) (v : VA Z54.a) (K : RES -> Prop) : Prop := Z54.c n v.1 (fun r0 => K ⟨.c (.bool r0), []⟩)
theorem qOz : CT X0 42 Z54.a Z54.u :=
 ct hX Try.f42 (by kernel_rfl) (fun _ _ h => h) (D6 hX) nL (fun n v K => by kernel_rfl)
def D7 : CS X0 := oC (qOz hX) (D6 hX)
abbrev Z59.a : List TS := [.c (.o .str)]
def Z59.u (n : Nat) (v : VA Z59.a) (K : RES -> Prop) : Prop := Z59.c n v.1 (fun r0 => K ⟨.c (.bool r0), []⟩)
abbrev Z59.l4.s : ST := ⟨[(0, .c (.o .str)), (3, .c (.o (.int .i64)))], [], [], [], []⟩
def Z59.l4.u (n : Nat) (v : Z59.l4.s.V) (K : X -> St -> Prop) : Prop := Z59.l4 n v.1.1 v.1.2.1 (K (.exit 0) ⟨[], [], [], [], []⟩) (fun y0 => K .ret ⟨[(2, .c (.bool y0))], [], [], [], []⟩)
theorem Z59.l4_ok : LT X0 17 4 Z59.l4.s Z59.l4.u :=
 lt hX Try.f17 (by kernel_rfl) (fun _ _ h => h) (D7 hX) nL (fun n v K => by kernel_rfl)
theorem qOu : CT X0 17 Z59.a Z59.u :=
 ct hX Try.f17 (by kernel_rfl) (fun _ _ h => h) (D7 hX) (oL (Z59.l4_ok hX) nL) (fun n v K => by kernel_rfl)
def D8 : CS X0 := oC (qOu hX) (D7 hX)
abbrev Z57.a : List TS := [.c (.o (.int .i64)), .c (.o (.int .i64)), .c (.o (.int .i64))]
def Z57.u (n : Nat) (v : VA Z57.a) (K : RES -> Prop) : Prop := Z57.c n v.1 v.2.1 v.2.2.1 (fun r0 => K ⟨.c (.bool r0), []⟩)
theorem qOw : CT X0 19 Z57.a Z57.u :=
 ct hX Try.f19 (by kernel_rfl) (fun _ _ h => h) (D8 hX) nL (fun n v K => by kernel_rfl)
def D9 : CS X0 := oC (qOw hX) (D8 hX)
abbrev Z38.a : List TS := [.c (.o (.dat 34 Y13))]
def Z38.u (n : Nat) (v : VA Z38.a) (K : RES -> Prop) : Prop := Z38.c n v.1 (fun r0 => K ⟨.c (.bool r0), []⟩)
abbrev Z38.l10.s : ST := ⟨[(0, .c (.o (.dat 34 Y13))), (3, .c (.o (.int .i64))), (4, .c (.o (.int .i64))), (5, .c (.o (.int .i64)))], [], [], [], []⟩
def Z38.l10.u (n : Nat) (v : Z38.l10.s.V) (K : X -> St -> Prop) : Prop := Z38.l10 n v.1.1 v.1.2.1 v.1.2.2.1 v.1.2.2.2.1 (fun y0 y1 y2 => K (.exit 2) ⟨[(0, .c (.dat 34 Y13 y0)), (3, .c (.int .i64 y1)), (4, .c (.int .i64 y2))], [], [], [], []⟩) (fun y0 => K .ret ⟨[(2, .c (.bool y0))], [], [], [], []⟩)
abbrev Z38.l5.s : ST := ⟨[(0, .c (.o (.dat 34 Y13))), (3, .c (.o (.int .i64))), (4, .c (.o (.int .i64)))], [], [], [], []⟩
def Z38.l5.u (n : Nat) (v : Z38.l5.s.V) (K : X -> St -> Prop) : Prop := Z38.l5 n v.1.1 v.1.2.1 v.1.2.2.1 (fun y0 => K (.exit 0) ⟨[(3, .c (.int .i64 y0))], [], [], [], []⟩) (fun y0 => K .ret ⟨[(2, .c (.bool y0))], [], [], [], []⟩)
theorem Z38.l10_ok : LT X0 20 10 Z38.l10.s Z38.l10.u :=
 lt hX Try.f20 (by kernel_rfl) (fun _ _ h => h) (D9 hX) nL (fun n v K => by kernel_rfl)
theorem Z38.l5_ok : LT X0 20 5 Z38.l5.s Z38.l5.u :=
 lt hX Try.f20 (by kernel_rfl) (fun _ _ h => h) (D9 hX) (oL (Z38.l10_ok hX) nL) (fun n v K => by kernel_rfl)
theorem qOP : CT X0 20 Z38.a Z38.u :=
 ct hX Try.f20 (by kernel_rfl) (fun _ _ h => h) (D9 hX) (oL (Z38.l5_ok hX) nL) (fun n v K => by kernel_rfl)
def D10 : CS X0 := oC (qOP hX) (D9 hX)
abbrev Z84.a : List TS := [.a [.o (.int .i64), .o (.dat 91 (.int .u64))]]
def Z84.u (n : Nat) (v : VA Z84.a) (K : RES -> Prop) : Prop := Z84.c n v.1.1 v.1.2.1 (fun r0 => K ⟨.c (.bool r0), []⟩)
theorem qN5 : CT X0 90 Z84.a Z84.u :=
 ct hX Try.f90 (by kernel_rfl) (fun _ _ h => h) (D10 hX) nL (fun n v K => by kernel_rfl)
def D11 : CS X0 := oC (qN5 hX) (D10 hX)
abbrev Z85.a : List TS := [.c (.o (.int .i64))]
def Z85.u (n : Nat) (v : VA Z85.a) (K : RES -> Prop) : Prop := Z85.c n v.1 (fun r0 => K ⟨.c (.bool r0), []⟩)
theorem qN4 : CT X0 91 Z85.a Z85.u :=
 ct hX Try.f91 (by kernel_rfl) (fun _ _ h => h) (D11 hX) nL (fun n v K => by kernel_rfl)
def D12 : CS X0 := oC (qN4 hX) (D11 hX)
abbrev Z52.a : List TS := [.a [.o (.int .i64), .o (.dat 91 (.int .u64))], .c (.o (.int .i64))]
def Z52.u (n : Nat) (v : VA Z52.a) (K : RES -> Prop) : Prop := Z52.c n v.1.1 v.1.2.1 v.2.1 (fun r0 => K ⟨.c (.int .u8 r0), []⟩)
theorem qOB : CT X0 96 Z52.a Z52.u :=
 ct hX Try.f96 (by kernel_rfl) (fun _ _ h => h) (D12 hX) nL (fun n v K => by kernel_rfl)
def D13 : CS X0 := oC (qOB hX) (D12 hX)
abbrev Z36.a : List TS := [.a [.o (.int .i64), .o (.dat 91 (.int .u64))]]
def Z36.u (n : Nat) (v : VA Z36.a) (K : RES -> Prop) : Prop := Z36.c n v.1.1 v.1.2.1 (fun r0 => K ⟨.c (.bool r0), []⟩)
abbrev Z36.l4.s : ST := ⟨[(1, .c (.o (.pbox 1 0))), (3, .c (.o (.int .i64)))], [], [⟨1, 82, [.o (.int .i64), .o (.dat 91 (.int .u64))], false, false⟩], [], []⟩
def Z36.l4.u (n : Nat) (v : Z36.l4.s.V) (K : X -> St -> Prop) : Prop := Z36.l4 n v.2.2.1.1 v.2.2.1.2.1 v.1.2.1 (K (.exit 0) ⟨[], [], [], [], []⟩) (fun y0 => K .ret ⟨[(2, .c (.bool y0))], [], [], [], []⟩)
theorem Z36.l4_ok : LT X0 83 4 Z36.l4.s Z36.l4.u :=
 lt hX Try.f83 (by kernel_rfl) (fun _ _ h => h) (D13 hX) nL (fun n v K => by kernel_rfl)
theorem qOR : CT X0 83 Z36.a Z36.u :=
 ct hX Try.f83 (by kernel_rfl) (fun _ _ h => h) (D13 hX) (oL (Z36.l4_ok hX) nL) (fun n v K => by kernel_rfl)
def D14 : CS X0 := oC (qOR hX) (D13 hX)
abbrev Z81.a : List TS := [.c (.o (.dat 34 Y13)), .a [.o (.int .i64), .o (.int .i64), .o (.int .i64), .o (.int .i64), .o (.int .i64), .o (.dat 91 (.int .u64)), .o (.dat 2 (.int .i64))], .c (.o (.int .i64))]
def Z81.u (n : Nat) (v : VA Z81.a) (K : RES -> Prop) : Prop := Z81.c n v.1 v.2.1.1 v.2.1.2.1 v.2.1.2.2.1 v.2.1.2.2.2.1 v.2.1.2.2.2.2.1 v.2.1.2.2.2.2.2.1 v.2.1.2.2.2.2.2.2.1 v.2.2.1 (fun r0 => K ⟨.c (.bool r0), []⟩)
abbrev Z81.l2.s : ST := ⟨[(0, .c (.o (.dat 34 Y13))), (2, .c (.o (.int .i64))), (4, .c (.o (.pbox 4 0))), (7, .c (.o (.int .i64)))], [], [⟨4, 84, [.o (.int .i64), .o (.int .i64), .o (.int .i64), .o (.int .i64), .o (.int .i64), .o (.dat 91 (.int .u64)), .o (.dat 2 (.int .i64))], false, false⟩], [], []⟩
def Z81.l2.u (n : Nat) (v : Z81.l2.s.V) (K : X -> St -> Prop) : Prop := Z81.l2 n v.1.1 v.1.2.1 v.2.2.1.1 v.2.2.1.2.1 v.2.2.1.2.2.1 v.2.2.1.2.2.2.1 v.2.2.1.2.2.2.2.1 v.2.2.1.2.2.2.2.2.1 v.2.2.1.2.2.2.2.2.2.1 v.1.2.2.2.1 (fun y0 y1 y2 y3 y4 y5 y6 y7 => K (.exit 0) ⟨[(0, .c (.dat 34 Y13 y0)), (4, .c (.pbox 4 0))], [], [(4, ⟨84, [.int .i64 y1, .int .i64 y2, .int .i64 y3, .int .i64 y4, .int .i64 y5, .dat 91 (.int .u64) y6, .dat 2 (.int .i64) y7], false, false⟩)], [], []⟩) (fun y0 => K .ret ⟨[(6, .c (.bool y0))], [], [], [], []⟩)
abbrev Z81.q7.s : ST := ⟨[(0, .c (.o (.dat 34 Y13))), (4, .c (.o (.pbox 4 0))), (63, .c (.o .bool))], [], [⟨4, 84, [.o (.int .i64), .o (.int .i64), .o (.int .i64), .o (.int .i64), .o (.int .i64), .o (.dat 91 (.int .u64)), .o (.dat 2 (.int .i64))], false, false⟩], [], []⟩
def Z81.q7.u (n : Nat) (v : Z81.q7.s.V) (K : X -> St -> Prop) : Prop := Z81.q7 n v.1.1 v.1.2.2.1 v.2.2.1.1 v.2.2.1.2.1 v.2.2.1.2.2.1 v.2.2.1.2.2.2.1 v.2.2.1.2.2.2.2.1 v.2.2.1.2.2.2.2.2.1 v.2.2.1.2.2.2.2.2.2.1 (fun y0 => K .ret ⟨[(6, .c (.bool y0))], [], [], [], []⟩) (fun y0 y1 y2 y3 y4 y5 y6 y7 => K .normal ⟨[(0, .c (.dat 34 Y13 y0)), (4, .c (.pbox 4 0))], [], [(4, ⟨84, [.int .i64 y1, .int .i64 y2, .int .i64 y3, .int .i64 y4, .int .i64 y5, .dat 91 (.int .u64) y6, .dat 2 (.int .i64) y7], false, false⟩)], [], []⟩)
abbrev Z81.q8.s : ST := ⟨[(0, .c (.o (.dat 34 Y13))), (4, .c (.o (.pbox 4 0)))], [], [⟨4, 84, [.o (.int .i64), .o (.int .i64), .o (.int .i64), .o (.int .i64), .o (.int .i64), .o (.dat 91 (.int .u64)), .o (.dat 2 (.int .i64))], false, false⟩], [], []⟩
def Z81.q8.u (n : Nat) (v : Z81.q8.s.V) (K : X -> St -> Prop) : Prop := Z81.q8 n v.1.1 v.2.2.1.1 v.2.2.1.2.1 v.2.2.1.2.2.1 v.2.2.1.2.2.2.1 v.2.2.1.2.2.2.2.1 v.2.2.1.2.2.2.2.2.1 v.2.2.1.2.2.2.2.2.2.1 (fun y0 => K .ret ⟨[(6, .c (.bool y0))], [], [], [], []⟩)
theorem Z81.l2_ok : LT X0 77 2 Z81.l2.s Z81.l2.u :=
 lt hX Try.f77 (by kernel_rfl) (fun _ _ h => h) (D14 hX) nL (fun n v K => by kernel_rfl)
theorem Z81.q7_ok : LT X0 77 1000007 Z81.q7.s Z81.q7.u :=
 cu hX Try.f77 (by kernel_rfl) (fun _ _ h => h) (D14 hX) nL (fun n v K => by kernel_rfl)
theorem Z81.q8_ok : LT X0 77 1000008 Z81.q8.s Z81.q8.u :=
 cu hX Try.f77 (by kernel_rfl) (fun _ _ h => h) (D14 hX) nL (fun n v K => by kernel_rfl)
theorem qN8 : CT X0 77 Z81.a Z81.u :=
 ct hX Try.f77 (by kernel_rfl) (fun _ _ h => h) (D14 hX) (oL (Z81.l2_ok hX) (oL (Z81.q7_ok hX) (oL (Z81.q8_ok hX) nL))) (fun n v K => by kernel_rfl)
def D15 : CS X0 := oC (qN8 hX) (D14 hX)
abbrev Z92.a : List TS := [.c (.o (.dat 34 Y13)), .a [.o (.int .i64), .o (.int .i64), .o (.int .i64), .o (.int .i64), .o (.int .i64), .o (.dat 91 (.int .u64)), .o (.dat 2 (.int .i64))], .c (.o (.dat 2 (.int .i64)))]
def Z92.u (n : Nat) (v : VA Z92.a) (K : RES -> Prop) : Prop := Z92.c n v.1 v.2.1.1 v.2.1.2.1 v.2.1.2.2.1 v.2.1.2.2.2.1 v.2.1.2.2.2.2.1 v.2.1.2.2.2.2.2.1 v.2.1.2.2.2.2.2.2.1 v.2.2.1 (fun r0 => K ⟨.c (.int .i64 r0), []⟩)
abbrev Z92.l3.s : ST := ⟨[(0, .c (.o (.dat 34 Y13))), (2, .c (.o (.dat 2 (.int .i64)))), (4, .c (.o (.pbox 4 0))), (7, .c (.o (.int .i64))), (8, .c (.o (.int .i64)))], [], [⟨4, 84, [.o (.int .i64), .o (.int .i64), .o (.int .i64), .o (.int .i64), .o (.int .i64), .o (.dat 91 (.int .u64)), .o (.dat 2 (.int .i64))], false, false⟩], [], []⟩
def Z92.l3.u (n : Nat) (v : Z92.l3.s.V) (K : X -> St -> Prop) : Prop := Z92.l3 n v.1.1 v.1.2.1 v.2.2.1.1 v.2.2.1.2.1 v.2.2.1.2.2.1 v.2.2.1.2.2.2.1 v.2.2.1.2.2.2.2.1 v.2.2.1.2.2.2.2.2.1 v.2.2.1.2.2.2.2.2.2.1 v.1.2.2.2.1 v.1.2.2.2.2.1 (fun y0 y1 y2 y3 y4 y5 y6 y7 y8 => K (.exit 0) ⟨[(0, .c (.dat 34 Y13 y0)), (4, .c (.pbox 4 0)), (7, .c (.int .i64 y1))], [], [(4, ⟨84, [.int .i64 y2, .int .i64 y3, .int .i64 y4, .int .i64 y5, .int .i64 y6, .dat 91 (.int .u64) y7, .dat 2 (.int .i64) y8], false, false⟩)], [], []⟩)
theorem Z92.l3_ok : LT X0 78 3 Z92.l3.s Z92.l3.u :=
 lt hX Try.f78 (by kernel_rfl) (fun _ _ h => h) (D15 hX) nL (fun n v K => by kernel_rfl)
theorem qNX : CT X0 78 Z92.a Z92.u :=
 ct hX Try.f78 (by kernel_rfl) (fun _ _ h => h) (D15 hX) (oL (Z92.l3_ok hX) nL) (fun n v K => by kernel_rfl)
def D16 : CS X0 := oC (qNX hX) (D15 hX)
abbrev Z93.a : List TS := [.c (.o (.dat 34 Y13)), .a [.o (.dat 84 Y6)]]
def Z93.u (n : Nat) (v : VA Z93.a) (K : RES -> Prop) : Prop := Z93.c n v.1 v.2.1.1 (fun r0 => K ⟨.c (.row ⟨2, .int .i64, r0, 99, none⟩), []⟩)
abbrev Z93.l16.s : ST := ⟨[(0, .c (.o (.dat 34 Y13))), (3, .c (.o (.pbox 3 0))), (5, .c (.o (.own 384))), (6, .c (.o (.own 2112))), (7, .c (.o (.own 1056))), (8, .c (.o (.int .i64))), (10, .c (.o (.int .i64)))], [⟨384, 2, .int .i64, 99⟩, ⟨1056, 4, .bool, 99⟩, ⟨2112, 2, .int .i64, 99⟩], [⟨3, 59, [.o (.dat 84 Y6)], false, false⟩], [], []⟩
def Z93.l16.u (n : Nat) (v : Z93.l16.s.V) (K : X -> St -> Prop) : Prop := Z93.l16 n v.1.1 v.1.2.2.2.2.2.1 v.2.1.1 v.2.1.2.2.1 v.2.2.1.1 v.1.2.2.2.2.2.2.1 v.2.1.2.1 (fun y0 y1 y2 y3 y4 y5 => K (.exit 2) ⟨[(0, .c (.dat 34 Y13 y0)), (3, .c (.pbox 3 0)), (5, .c (.own 384)), (6, .c (.own 2112)), (7, .c (.own 1056)), (8, .c (.int .i64 y1))], [(384, ⟨2, .int .i64, y2, 99, none⟩), (1056, ⟨4, .bool, y3, 99, none⟩), (2112, ⟨2, .int .i64, y4, 99, none⟩)], [(3, ⟨59, [.dat 84 Y6 y5], false, false⟩)], [], []⟩)
abbrev Z93.l7.s : ST := ⟨[(0, .c (.o (.dat 34 Y13))), (3, .c (.o (.pbox 3 0))), (5, .c (.o (.own 384))), (6, .c (.o (.own 192))), (7, .c (.o (.own 1056))), (8, .c (.o (.int .i64)))], [⟨192, 2, .int .i64, 99⟩, ⟨384, 2, .int .i64, 99⟩, ⟨1056, 4, .bool, 99⟩], [⟨3, 59, [.o (.dat 84 Y6)], false, false⟩], [], []⟩
def Z93.l7.u (n : Nat) (v : Z93.l7.s.V) (K : X -> St -> Prop) : Prop := Z93.l7 n v.1.1 v.1.2.2.2.2.2.1 v.2.1.1 v.2.1.2.1 v.2.1.2.2.1 v.2.2.1.1 (fun y0 y1 y2 => K (.exit 0) ⟨[(5, .c (.own 384)), (6, .c (.own 192)), (7, .c (.own 1056))], [(192, ⟨2, .int .i64, y0, 99, none⟩), (384, ⟨2, .int .i64, y1, 99, none⟩), (1056, ⟨4, .bool, y2, 99, none⟩)], [], [], []⟩) (fun y0 => K .ret ⟨[(4, .c (.own 384))], [(384, ⟨2, .int .i64, y0, 99, none⟩)], [], [], []⟩)
abbrev Z93.l20.s : ST := ⟨[(5, .c (.o (.own 384))), (6, .c (.o (.own 192))), (7, .c (.o (.own 1056))), (11, .c (.o (.int .i64)))], [⟨192, 2, .int .i64, 99⟩, ⟨384, 2, .int .i64, 99⟩, ⟨1056, 4, .bool, 99⟩], [], [], []⟩
def Z93.l20.u (n : Nat) (v : Z93.l20.s.V) (K : X -> St -> Prop) : Prop := Z93.l20 n v.2.1.1 v.2.1.2.1 v.2.1.2.2.1 v.1.2.2.2.1 (fun y0 => K (.exit 4) ⟨[(6, .c (.own 192))], [(192, ⟨2, .int .i64, y0, 99, none⟩)], [], [], []⟩) (fun y0 => K .ret ⟨[(4, .c (.own 384))], [(384, ⟨2, .int .i64, y0, 99, none⟩)], [], [], []⟩)
theorem Z93.l16_ok : LT X0 64 16 Z93.l16.s Z93.l16.u :=
 lt hX Try.f64 (by kernel_rfl) (fun _ _ h => h) (D16 hX) nL (fun n v K => by kernel_rfl)
theorem Z93.l7_ok : LT X0 64 7 Z93.l7.s Z93.l7.u :=
 lt hX Try.f64 (by kernel_rfl) (fun _ _ h => h) (D16 hX) (oL (Z93.l16_ok hX) nL) (fun n v K => by kernel_rfl)
theorem Z93.l20_ok : LT X0 64 20 Z93.l20.s Z93.l20.u :=
 lt hX Try.f64 (by kernel_rfl) (fun _ _ h => h) (D16 hX) nL (fun n v K => by kernel_rfl)
theorem qNW : CT X0 64 Z93.a Z93.u :=
 ct hX Try.f64 (by kernel_rfl) (fun _ _ h => h) (D16 hX) (oL (Z93.l7_ok hX) (oL (Z93.l20_ok hX) nL)) (fun n v K => by kernel_rfl)
def D17 : CS X0 := oC (qNW hX) (D16 hX)
abbrev Z47.a : List TS := [.c (.o (.dat 34 Y13)), .a [.o (.dat 84 Y6)]]
def Z47.u (n : Nat) (v : VA Z47.a) (K : RES -> Prop) : Prop := Z47.c n v.1 v.2.1.1 (fun r0 => K ⟨.c (.int .i64 r0), []⟩)
theorem qOG : CT X0 50 Z47.a Z47.u :=
 ct hX Try.f50 (by kernel_rfl) (fun _ _ h => h) (D17 hX) nL (fun n v K => by kernel_rfl)
def D18 : CS X0 := oC (qOG hX) (D17 hX)
abbrev Z40.a : List TS := [.c (.o (.dat 34 Y13)), .c (.o (.dat 61 Y3))]
def Z40.u (n : Nat) (v : VA Z40.a) (K : RES -> Prop) : Prop := Z40.c n v.1 v.2.1 (fun r0 => K ⟨.c (.bool r0), []⟩)
abbrev Z40.l4.s : ST := ⟨[(0, .c (.o (.dat 34 Y13))), (1, .c (.o (.dat 61 Y3))), (5, .c (.o (.int .i64)))], [], [], [], []⟩
def Z40.l4.u (n : Nat) (v : Z40.l4.s.V) (K : X -> St -> Prop) : Prop := Z40.l4 n v.1.1 v.1.2.1 v.1.2.2.1 (K (.exit 0) ⟨[], [], [], [], []⟩) (fun y0 => K .ret ⟨[(4, .c (.bool y0))], [], [], [], []⟩)
theorem Z40.l4_ok : LT X0 40 4 Z40.l4.s Z40.l4.u :=
 lt hX Try.f40 (by kernel_rfl) (fun _ _ h => h) (D18 hX) nL (fun n v K => by kernel_rfl)
theorem qON : CT X0 40 Z40.a Z40.u :=
 ct hX Try.f40 (by kernel_rfl) (fun _ _ h => h) (D18 hX) (oL (Z40.l4_ok hX) nL) (fun n v K => by kernel_rfl)
def D19 : CS X0 := oC (qON hX) (D18 hX)
abbrev Z46.a : List TS := [.a [.o (.dat 34 Y13), .o (.dat 52 Y2), .o (.int .i64)]]
def Z46.u (n : Nat) (v : VA Z46.a) (K : RES -> Prop) : Prop := Z46.c n v.1.1 v.1.2.1 v.1.2.2.1 (fun r0 => K ⟨.c (.bool r0), []⟩)
abbrev Z46.l5.s : ST := ⟨[(1, .c (.o (.pbox 1 0))), (3, .c (.o (.int .i64))), (4, .c (.o (.int .i64)))], [], [⟨1, 27, [.o (.dat 34 Y13), .o (.dat 52 Y2), .o (.int .i64)], false, false⟩], [], []⟩
def Z46.l5.u (n : Nat) (v : Z46.l5.s.V) (K : X -> St -> Prop) : Prop := Z46.l5 n v.1.2.1 v.2.2.1.1 v.2.2.1.2.1 v.2.2.1.2.2.1 v.1.2.2.1 (fun y0 y1 y2 y3 => K (.exit 0) ⟨[(1, .c (.pbox 1 0)), (3, .c (.int .i64 y0))], [], [(1, ⟨27, [.dat 34 Y13 y1, .dat 52 Y2 y2, .int .i64 y3], false, false⟩)], [], []⟩) (fun y0 => K .ret ⟨[(2, .c (.bool y0))], [], [], [], []⟩)
abbrev Z46.l21.s : ST := ⟨[(1, .c (.o (.pbox 1 0))), (3, .c (.o (.int .i64))), (5, .c (.o (.int .i64))), (6, .c (.o (.int .i64))), (7, .c (.o (.int .i64))), (9, .c (.o (.dat 61 Y3))), (10, .c (.o (.int .i64)))], [], [⟨1, 27, [.o (.dat 34 Y13), .o (.dat 52 Y2), .o (.int .i64)], false, false⟩], [], []⟩
def Z46.l21.u (n : Nat) (v : Z46.l21.s.V) (K : X -> St -> Prop) : Prop := Z46.l21 n v.1.2.1 v.1.2.2.1 v.1.2.2.2.2.1 v.1.2.2.2.2.2.1 v.2.2.1.1 v.2.2.1.2.1 v.2.2.1.2.2.1 v.1.2.2.2.1 v.1.2.2.2.2.2.2.1 (fun y0 y1 y2 y3 y4 y5 y6 y7 => K (.exit 4) ⟨[(1, .c (.pbox 1 0)), (3, .c (.int .i64 y0)), (5, .c (.int .i64 y1)), (6, .c (.int .i64 y2)), (7, .c (.int .i64 y3)), (9, .c (.dat 61 Y3 y4))], [], [(1, ⟨27, [.dat 34 Y13 y5, .dat 52 Y2 y6, .int .i64 y7], false, false⟩)], [], []⟩) (fun y0 => K .ret ⟨[(2, .c (.bool y0))], [], [], [], []⟩)
abbrev Z46.l12.s : ST := ⟨[(1, .c (.o (.pbox 1 0))), (3, .c (.o (.int .i64))), (5, .c (.o (.int .i64))), (6, .c (.o (.int .i64))), (7, .c (.o (.int .i64)))], [], [⟨1, 27, [.o (.dat 34 Y13), .o (.dat 52 Y2), .o (.int .i64)], false, false⟩], [], []⟩
def Z46.l12.u (n : Nat) (v : Z46.l12.s.V) (K : X -> St -> Prop) : Prop := Z46.l12 n v.1.2.1 v.1.2.2.1 v.1.2.2.2.1 v.1.2.2.2.2.1 v.2.2.1.1 v.2.2.1.2.1 v.2.2.1.2.2.1 (fun y0 y1 y2 y3 y4 => K (.exit 2) ⟨[(1, .c (.pbox 1 0)), (5, .c (.int .i64 y0)), (6, .c (.int .i64 y1))], [], [(1, ⟨27, [.dat 34 Y13 y2, .dat 52 Y2 y3, .int .i64 y4], false, false⟩)], [], []⟩) (fun y0 => K .ret ⟨[(2, .c (.bool y0))], [], [], [], []⟩)
theorem Z46.l5_ok : LT X0 15 5 Z46.l5.s Z46.l5.u :=
 lt hX Try.f15 (by kernel_rfl) (fun _ _ h => h) (D19 hX) nL (fun n v K => by kernel_rfl)
theorem Z46.l21_ok : LT X0 15 21 Z46.l21.s Z46.l21.u :=
 lt hX Try.f15 (by kernel_rfl) (fun _ _ h => h) (D19 hX) nL (fun n v K => by kernel_rfl)
theorem Z46.l12_ok : LT X0 15 12 Z46.l12.s Z46.l12.u :=
 lt hX Try.f15 (by kernel_rfl) (fun _ _ h => h) (D19 hX) (oL (Z46.l21_ok hX) nL) (fun n v K => by kernel_rfl)
theorem qOH : CT X0 15 Z46.a Z46.u :=
 ct hX Try.f15 (by kernel_rfl) (fun _ _ h => h) (D19 hX) (oL (Z46.l5_ok hX) (oL (Z46.l12_ok hX) nL)) (fun n v K => by kernel_rfl)
def D20 : CS X0 := oC (qOH hX) (D19 hX)
abbrev Z78.a : List TS := [.a [.o (.int .i64), .o (.int .i64), .o (.int .i64), .o (.int .i64), .o (.int .i64), .o (.dat 91 (.int .u64)), .o (.dat 2 (.int .i64))]]
def Z78.u (n : Nat) (v : VA Z78.a) (K : RES -> Prop) : Prop := Z78.c n v.1.1 v.1.2.1 v.1.2.2.1 v.1.2.2.2.1 v.1.2.2.2.2.1 v.1.2.2.2.2.2.1 v.1.2.2.2.2.2.2.1 (fun r0 r1 r2 r3 r4 r5 r6 => K ⟨.agg [.int .i64 r0, .int .i64 r1, .int .i64 r2, .int .i64 r3, .int .i64 r4, .row ⟨91, .int .u64, r5, 99, none⟩, .row ⟨2, .int .i64, r6, 99, none⟩], []⟩)
theorem qOb : CT X0 71 Z78.a Z78.u :=
 ct hX Try.f71 (by kernel_rfl) (fun _ _ h => h) (D20 hX) nL (fun n v K => by kernel_rfl)
def D21 : CS X0 := oC (qOb hX) (D20 hX)
abbrev Z50.a : List TS := [.a [.o (.dat 84 Y6)]]
def Z50.u (n : Nat) (v : VA Z50.a) (K : RES -> Prop) : Prop := Z50.c n v.1.1 (fun r0 => K ⟨.agg [.row ⟨84, .prod (.int .i64) Y7, r0, 99, none⟩], []⟩)
abbrev Z50.l3.s : ST := ⟨[(1, .c (.o (.pbox 1 0))), (2, .c (.o (.pbox 2 0))), (3, .c (.o (.pbox 3 0))), (4, .c (.o (.int .i64)))], [⟨1000064, 84, .prod (.int .i64) Y7, 99⟩, ⟨1000096, 84, .prod (.int .i64) Y7, 99⟩], [⟨1, 59, [.o (.dat 84 Y6)], false, false⟩, ⟨2, 59, [.o (.own 1000064)], false, false⟩, ⟨3, 59, [.o (.own 1000096)], false, false⟩], [], []⟩
def Z50.l3.u (n : Nat) (v : Z50.l3.s.V) (K : X -> St -> Prop) : Prop := Z50.l3 n v.2.1.1 v.2.2.1.1 v.1.2.2.2.1 v.2.1.2.1 (fun y0 y1 => K (.exit 0) ⟨[(2, .c (.pbox 2 0)), (3, .c (.pbox 3 0))], [(1000064, ⟨84, .prod (.int .i64) Y7, y0, 99, none⟩), (1000096, ⟨84, .prod (.int .i64) Y7, y1, 99, none⟩)], [(2, ⟨59, [.own 1000064], false, false⟩), (3, ⟨59, [.own 1000096], false, false⟩)], [], []⟩)
theorem Z50.l3_ok : LT X0 57 3 Z50.l3.s Z50.l3.u :=
 lt hX Try.f57 (by kernel_rfl) (fun _ _ h => h) (D21 hX) nL (fun n v K => by kernel_rfl)
theorem qOD : CT X0 57 Z50.a Z50.u :=
 ct hX Try.f57 (by kernel_rfl) (fun _ _ h => h) (D21 hX) (oL (Z50.l3_ok hX) nL) (fun n v K => by kernel_rfl)
def D22 : CS X0 := oC (qOD hX) (D21 hX)
abbrev Z51.a : List TS := [.c (.o (.dat 61 Y3))]
def Z51.u (n : Nat) (v : VA Z51.a) (K : RES -> Prop) : Prop := Z51.c n v.1 (fun r0 => K ⟨.c (.row ⟨61, .prod (.int .i64) Y4, r0, 99, none⟩), []⟩)
abbrev Z51.l3.s : ST := ⟨[(0, .c (.o (.dat 61 Y3))), (3, .c (.o (.own 96))), (4, .c (.o (.int .i64)))], [⟨96, 61, .prod (.int .i64) Y4, 99⟩], [], [], []⟩
def Z51.l3.u (n : Nat) (v : Z51.l3.s.V) (K : X -> St -> Prop) : Prop := Z51.l3 n v.1.1 v.1.2.2.1 v.2.1.1 (fun y0 => K (.exit 0) ⟨[(3, .c (.own 96))], [(96, ⟨61, .prod (.int .i64) Y4, y0, 99, none⟩)], [], [], []⟩)
theorem Z51.l3_ok : LT X0 41 3 Z51.l3.s Z51.l3.u :=
 lt hX Try.f41 (by kernel_rfl) (fun _ _ h => h) (D22 hX) nL (fun n v K => by kernel_rfl)
theorem qOC : CT X0 41 Z51.a Z51.u :=
 ct hX Try.f41 (by kernel_rfl) (fun _ _ h => h) (D22 hX) (oL (Z51.l3_ok hX) nL) (fun n v K => by kernel_rfl)
def D23 : CS X0 := oC (qOC hX) (D22 hX)
abbrev Z73.a : List TS := [.a [.o (.dat 34 Y13), .o (.dat 52 Y2), .o (.int .i64)]]
def Z73.u (n : Nat) (v : VA Z73.a) (K : RES -> Prop) : Prop := Z73.c n v.1.1 v.1.2.1 v.1.2.2.1 (fun r0 r1 r2 => K ⟨.agg [.row ⟨34, .prod .str (.int .i64), r0, 99, none⟩, .row ⟨52, .prod (.int .i64) (.sl 61 Y3), r1, 99, none⟩, .int .i64 r2], []⟩)
abbrev Z73.l3.s : ST := ⟨[(1, .c (.o (.pbox 1 0))), (2, .c (.o (.pbox 2 0))), (3, .c (.o (.pbox 3 0))), (4, .c (.o (.int .i64)))], [⟨256, 34, .prod .str (.int .i64), 99⟩, ⟨1000064, 34, .prod .str (.int .i64), 99⟩, ⟨1000065, 52, .prod (.int .i64) (.sl 61 Y3), 99⟩, ⟨1000097, 52, .prod (.int .i64) (.sl 61 Y3), 99⟩], [⟨1, 27, [.o (.dat 34 Y13), .o (.dat 52 Y2), .o (.int .i64)], false, false⟩, ⟨2, 27, [.o (.own 1000064), .o (.own 1000065), .o (.int .i64)], false, false⟩, ⟨3, 27, [.o (.own 256), .o (.own 1000097), .o (.int .i64)], false, false⟩], [], []⟩
def Z73.l3.u (n : Nat) (v : Z73.l3.s.V) (K : X -> St -> Prop) : Prop := Z73.l3 n v.2.1.1 v.2.1.2.1 v.2.1.2.2.1 v.2.2.1.1 v.2.2.1.2.1 v.2.2.1.2.2.1 v.2.2.2.1.2.2.1 v.2.2.2.2.1.2.2.1 v.1.2.2.2.1 v.2.1.2.2.2.1 (fun y0 y1 y2 y3 y4 y5 => K (.exit 0) ⟨[(2, .c (.pbox 2 0)), (3, .c (.pbox 3 0))], [(256, ⟨34, .prod .str (.int .i64), y0, 99, none⟩), (1000064, ⟨34, .prod .str (.int .i64), y1, 99, none⟩), (1000065, ⟨52, .prod (.int .i64) (.sl 61 Y3), y2, 99, none⟩), (1000097, ⟨52, .prod (.int .i64) (.sl 61 Y3), y3, 99, none⟩)], [(2, ⟨27, [.own 1000064, .own 1000065, .int .i64 y4], false, false⟩), (3, ⟨27, [.own 256, .own 1000097, .int .i64 y5], false, false⟩)], [], []⟩)
theorem Z73.l3_ok : LT X0 16 3 Z73.l3.s Z73.l3.u :=
 lt hX Try.f16 (by kernel_rfl) (fun _ _ h => h) (D23 hX) nL (fun n v K => by kernel_rfl)
theorem qOg : CT X0 16 Z73.a Z73.u :=
 ct hX Try.f16 (by kernel_rfl) (fun _ _ h => h) (D23 hX) (oL (Z73.l3_ok hX) nL) (fun n v K => by kernel_rfl)
def D24 : CS X0 := oC (qOg hX) (D23 hX)
abbrev Z79.a : List TS := [.c (.o (.dat 34 Y13)), .c (.o .str)]
def Z79.u (n : Nat) (v : VA Z79.a) (K : RES -> Prop) : Prop := Z79.c n v.1 v.2.1 (fun r0 => K ⟨.c (.int .i64 r0), []⟩)
abbrev Z79.l2.s : ST := ⟨[(0, .c (.o (.dat 34 Y13))), (1, .c (.o .str)), (5, .c (.o (.int .i64)))], [], [], [], []⟩
def Z79.l2.u (n : Nat) (v : Z79.l2.s.V) (K : X -> St -> Prop) : Prop := Z79.l2 n v.1.1 v.1.2.1 v.1.2.2.1 (K (.exit 0) ⟨[], [], [], [], []⟩) (fun y0 => K .ret ⟨[(4, .c (.int .i64 y0))], [], [], [], []⟩)
theorem Z79.l2_ok : LT X0 18 2 Z79.l2.s Z79.l2.u :=
 lt hX Try.f18 (by kernel_rfl) (fun _ _ h => h) (D24 hX) nL (fun n v K => by kernel_rfl)
theorem qOa : CT X0 18 Z79.a Z79.u :=
 ct hX Try.f18 (by kernel_rfl) (fun _ _ h => h) (D24 hX) (oL (Z79.l2_ok hX) nL) (fun n v K => by kernel_rfl)
def D25 : CS X0 := oC (qOa hX) (D24 hX)
abbrev Z37.a : List TS := [.a [.o (.dat 34 Y13), .o (.dat 52 Y2), .o (.int .i64)], .c (.o .str), .c (.o (.int .i64))]
def Z37.u (n : Nat) (v : VA Z37.a) (K : RES -> Prop) : Prop := Z37.c n v.1.1 v.1.2.1 v.1.2.2.1 v.2.1 v.2.2.1 (fun r0 r1 r2 r3 => K ⟨.tup [.agg [.row ⟨34, .prod .str (.int .i64), r0, 99, none⟩, .row ⟨52, .prod (.int .i64) (.sl 61 Y3), r1, 99, none⟩, .int .i64 r2], .c (.int .i64 r3)], []⟩)
theorem qOQ : CT X0 6 Z37.a Z37.u :=
 ct hX Try.f6 (by kernel_rfl) (fun _ _ h => h) (D25 hX) nL (fun n v K => by kernel_rfl)
def D26 : CS X0 := oC (qOQ hX) (D25 hX)
abbrev Z42.a : List TS := [.a [.o (.dat 34 Y13), .o (.dat 52 Y2), .o (.int .i64)]]
def Z42.u (n : Nat) (v : VA Z42.a) (K : RES -> Prop) : Prop := Z42.c n v.1.1 v.1.2.1 v.1.2.2.1 (fun r0 r1 r2 r3 => K ⟨.tup [.agg [.row ⟨34, .prod .str (.int .i64), r0, 99, none⟩, .row ⟨52, .prod (.int .i64) (.sl 61 Y3), r1, 99, none⟩, .int .i64 r2], .c (.int .i64 r3)], []⟩)
theorem qOL : CT X0 33 Z42.a Z42.u :=
 ct hX Try.f33 (by kernel_rfl) (fun _ _ h => h) (D26 hX) nL (fun n v K => by kernel_rfl)
def D27 : CS X0 := oC (qOL hX) (D26 hX)
abbrev Z67.a : List TS := [.c (.boxr 63 [.dat 5 (.int .u8), .int .i64]), .c (.o (.int .i64))]
def Z67.u (n : Nat) (v : VA Z67.a) (K : RES -> Prop) : Prop := Z67.c n v.1.1 v.1.2.1 v.2.1 (fun r0 r1 r2 => K ⟨.c (.bool r0), [[.boxr 63 [.dat 5 (.int .u8) r1, .int .i64 r2]]]⟩)
theorem qOm : CT X0 13 Z67.a Z67.u :=
 ct hX Try.f13 (by kernel_rfl) (fun _ _ h => h) (D27 hX) nL (fun n v K => by kernel_rfl)
def D28 : CS X0 := oC (qOm hX) (D27 hX)
abbrev Z41.a : List TS := [.a [.o (.dat 34 Y13), .o (.dat 52 Y2), .o (.int .i64)]]
def Z41.u (n : Nat) (v : VA Z41.a) (K : RES -> Prop) : Prop := Z41.c n v.1.1 v.1.2.1 v.1.2.2.1 (fun r0 r1 r2 r3 => K ⟨.tup [.agg [.row ⟨34, .prod .str (.int .i64), r0, 99, none⟩, .row ⟨52, .prod (.int .i64) (.sl 61 Y3), r1, 99, none⟩, .int .i64 r2], .c (.int .i64 r3)], []⟩)
theorem qOM : CT X0 34 Z41.a Z41.u :=
 ct hX Try.f34 (by kernel_rfl) (fun _ _ h => h) (D28 hX) nL (fun n v K => by kernel_rfl)
def D29 : CS X0 := oC (qOM hX) (D28 hX)
abbrev Z70.a : List TS := [.c (.boxr 63 [.dat 5 (.int .u8), .int .i64])]
def Z70.u (n : Nat) (v : VA Z70.a) (K : RES -> Prop) : Prop := Z70.c n v.1.1 v.1.2.1 (fun r0 r1 r2 => K ⟨.c (.int .u64 r0), [[.boxr 63 [.dat 5 (.int .u8) r1, .int .i64 r2]]]⟩)
abbrev Z70.l3.s : ST := ⟨[(0, .c (.o (.pbox 0 0))), (3, .c (.o (.int .u64))), (4, .c (.o (.int .i64)))], [], [⟨0, 63, [.o (.dat 5 (.int .u8)), .o (.int .i64)], false, false⟩], [], [0]⟩
def Z70.l3.u (n : Nat) (v : Z70.l3.s.V) (K : X -> St -> Prop) : Prop := Z70.l3 n v.1.2.1 v.1.2.2.1 v.2.2.1.1 v.2.2.1.2.1 (fun y0 y1 y2 => K (.exit 0) ⟨[(3, .c (.int .u64 y0))], [], [(0, ⟨63, [.dat 5 (.int .u8) y1, .int .i64 y2], false, false⟩)], [], [0]⟩)
theorem Z70.l3_ok : LT X0 56 3 Z70.l3.s Z70.l3.u :=
 lt hX Try.f56 (by kernel_rfl) (fun _ _ h => h) (D29 hX) nL (fun n v K => by kernel_rfl)
theorem qOj : CT X0 56 Z70.a Z70.u :=
 ct hX Try.f56 (by kernel_rfl) (fun _ _ h => h) (D29 hX) (oL (Z70.l3_ok hX) nL) (fun n v K => by kernel_rfl)
def D30 : CS X0 := oC (qOj hX) (D29 hX)
abbrev Z55.a : List TS := [.c (.o (.dat 5 (.int .u8)))]
def Z55.u (n : Nat) (v : VA Z55.a) (K : RES -> Prop) : Prop := Z55.c n v.1 (fun r0 r1 r2 => K ⟨.tup [.agg [.int .i64 r0, .row ⟨91, .int .u64, r1, 99, none⟩], .c (.bool r2)], []⟩)
abbrev Z55.l5.s : ST := ⟨[(0, .c (.o (.dat 5 (.int .u8)))), (2, .c (.o (.pbox 2 0))), (4, .c (.o (.pbox 4 0))), (5, .c (.o (.int .i64)))], [⟨672, 91, .int .u64, 99⟩, ⟨1000065, 91, .int .u64, 99⟩], [⟨2, 82, [.o (.int .i64), .o (.own 1000065)], false, false⟩, ⟨4, 82, [.o (.int .i64), .o (.own 672)], false, false⟩], [], []⟩
def Z55.l5.u (n : Nat) (v : Z55.l5.s.V) (K : X -> St -> Prop) : Prop := Z55.l5 n v.1.1 v.2.1.2.1 v.2.2.1.1 v.2.2.2.1.1 v.1.2.2.2.1 v.2.1.1 (fun y0 y1 y2 y3 => K (.exit 0) ⟨[(2, .c (.pbox 2 0)), (4, .c (.pbox 4 0))], [(672, ⟨91, .int .u64, y0, 99, none⟩), (1000065, ⟨91, .int .u64, y1, 99, none⟩)], [(2, ⟨82, [.int .i64 y2, .own 1000065], false, false⟩), (4, ⟨82, [.int .i64 y3, .own 672], false, false⟩)], [], []⟩)
theorem Z55.l5_ok : LT X0 76 5 Z55.l5.s Z55.l5.u :=
 lt hX Try.f76 (by kernel_rfl) (fun _ _ h => h) (D30 hX) nL (fun n v K => by kernel_rfl)
theorem qOy : CT X0 76 Z55.a Z55.u :=
 ct hX Try.f76 (by kernel_rfl) (fun _ _ h => h) (D30 hX) (oL (Z55.l5_ok hX) nL) (fun n v K => by kernel_rfl)
def D31 : CS X0 := oC (qOy hX) (D30 hX)
abbrev Z63.a : List TS := [.c (.boxr 63 [.dat 5 (.int .u8), .int .i64]), .c (.o (.int .i64))]
def Z63.u (n : Nat) (v : VA Z63.a) (K : RES -> Prop) : Prop := Z63.c n v.1.1 v.1.2.1 v.2.1 (fun r0 r1 r2 r3 => K ⟨.agg [.int .i64 r0, .row ⟨91, .int .u64, r1, 99, none⟩], [[.boxr 63 [.dat 5 (.int .u8) r2, .int .i64 r3]]]⟩)
abbrev Z63.l5.s : ST := ⟨[(1, .c (.o (.int .i64))), (4, .c (.o (.pbox 4 0))), (5, .c (.o (.own 160))), (6, .c (.o (.int .u64))), (7, .c (.o (.int .i64))), (8, .c (.o (.int .i64)))], [⟨160, 5, .int .u8, 99⟩, ⟨1000129, 91, .int .u64, 99⟩], [⟨0, 63, [.o (.dat 5 (.int .u8)), .o (.int .i64)], false, false⟩, ⟨4, 82, [.o (.int .i64), .o (.own 1000129)], false, false⟩], [], [0]⟩
def Z63.l5.u (n : Nat) (v : Z63.l5.s.V) (K : X -> St -> Prop) : Prop := Z63.l5 n v.1.1 v.1.2.2.2.1 v.1.2.2.2.2.1 v.2.1.2.1 v.2.2.1.1 v.2.2.1.2.1 v.2.2.2.1.1 v.1.2.2.2.2.2.1 v.2.1.1 (fun y0 y1 y2 y3 y4 => K (.exit 0) ⟨[(4, .c (.pbox 4 0)), (5, .c (.own 160))], [(160, ⟨5, .int .u8, y0, 99, none⟩), (1000129, ⟨91, .int .u64, y1, 99, none⟩)], [(0, ⟨63, [.dat 5 (.int .u8) y2, .int .i64 y3], false, false⟩), (4, ⟨82, [.int .i64 y4, .own 1000129], false, false⟩)], [], [0]⟩)
theorem Z63.l5_ok : LT X0 62 5 Z63.l5.s Z63.l5.u :=
 lt hX Try.f62 (by kernel_rfl) (fun _ _ h => h) (D31 hX) nL (fun n v K => by kernel_rfl)
theorem qOq : CT X0 62 Z63.a Z63.u :=
 ct hX Try.f62 (by kernel_rfl) (fun _ _ h => h) (D31 hX) (oL (Z63.l5_ok hX) nL) (fun n v K => by kernel_rfl)
def D32 : CS X0 := oC (qOq hX) (D31 hX)
abbrev Z64.a : List TS := [.c (.boxr 63 [.dat 5 (.int .u8), .int .i64]), .c (.o (.int .i64)), .c (.o (.int .i64))]
def Z64.u (n : Nat) (v : VA Z64.a) (K : RES -> Prop) : Prop := Z64.c n v.1.1 v.1.2.1 v.2.1 v.2.2.1 (fun r0 r1 r2 => K ⟨.c (.int .i64 r0), [[.boxr 63 [.dat 5 (.int .u8) r1, .int .i64 r2]]]⟩)
theorem qOp : CT X0 39 Z64.a Z64.u :=
 ct hX Try.f39 (by kernel_rfl) (fun _ _ h => h) (D32 hX) nL (fun n v K => by kernel_rfl)
def D33 : CS X0 := oC (qOp hX) (D32 hX)
abbrev Z88.a : List TS := [.c (.o (.dat 84 Y6)), .c (.o (.int .i64))]
def Z88.u (n : Nat) (v : VA Z88.a) (K : RES -> Prop) : Prop := Z88.c n v.1 v.2.1 (fun r0 => K ⟨.c (.row ⟨84, .prod (.int .i64) Y7, r0, 99, none⟩), []⟩)
abbrev Z88.l8.s : ST := ⟨[(0, .c (.o (.dat 84 Y6))), (5, .c (.o (.own 480))), (6, .c (.o (.own 672))), (7, .c (.o (.int .i64))), (8, .c (.o (.int .i64)))], [⟨480, 4, .bool, 99⟩, ⟨672, 2, .int .i64, 99⟩], [], [], []⟩
def Z88.l8.u (n : Nat) (v : Z88.l8.s.V) (K : X -> St -> Prop) : Prop := Z88.l8 n v.1.1 v.1.2.2.2.1 v.2.1.2.1 v.1.2.2.2.2.1 v.2.1.1 (fun y0 y1 y2 y3 => K (.exit 2) ⟨[(0, .c (.dat 84 Y6 y0)), (5, .c (.own 480)), (6, .c (.own 672)), (7, .c (.int .i64 y1))], [(480, ⟨4, .bool, y2, 99, none⟩), (672, ⟨2, .int .i64, y3, 99, none⟩)], [], [], []⟩)
abbrev Z88.l5.s : ST := ⟨[(0, .c (.o (.dat 84 Y6))), (5, .c (.o (.own 480))), (6, .c (.o (.own 672))), (7, .c (.o (.int .i64)))], [⟨480, 4, .bool, 99⟩, ⟨672, 2, .int .i64, 99⟩], [], [], []⟩
def Z88.l5.u (n : Nat) (v : Z88.l5.s.V) (K : X -> St -> Prop) : Prop := Z88.l5 n v.1.1 v.1.2.2.2.1 v.2.1.1 v.2.1.2.1 (fun y0 y1 y2 => K (.exit 0) ⟨[(0, .c (.dat 84 Y6 y0)), (5, .c (.own 480)), (6, .c (.own 672))], [(480, ⟨4, .bool, y1, 99, none⟩), (672, ⟨2, .int .i64, y2, 99, none⟩)], [], [], []⟩)
abbrev Z88.l18.s : ST := ⟨[(0, .c (.o (.dat 84 Y6))), (5, .c (.o (.own 480))), (6, .c (.o (.own 672))), (9, .c (.o (.own 288))), (10, .c (.o (.int .i64))), (11, .c (.o (.pbox 11 0))), (12, .c (.o (.int .i64)))], [⟨288, 84, .prod (.int .i64) Y7, 99⟩, ⟨480, 4, .bool, 99⟩, ⟨672, 2, .int .i64, 99⟩, ⟨2277, 91, .int .u64, 99⟩, ⟨2278, 2, .int .i64, 99⟩], [⟨11, 84, [.o (.int .i64), .o (.int .i64), .o (.int .i64), .o (.int .i64), .o (.int .i64), .o (.own 2277), .o (.own 2278)], false, false⟩], [], []⟩
def Z88.l18.u (n : Nat) (v : Z88.l18.s.V) (K : X -> St -> Prop) : Prop := Z88.l18 n v.1.1 v.1.2.2.2.2.1 v.2.1.1 v.2.1.2.1 v.2.1.2.2.1 v.2.1.2.2.2.1 v.2.2.1.1 v.2.2.1.2.1 v.2.2.1.2.2.1 v.2.2.1.2.2.2.1 v.2.2.1.2.2.2.2.1 v.1.2.2.2.2.2.2.1 v.2.1.2.2.2.2.1 (fun y0 y1 y2 y3 y4 y5 y6 y7 y8 y9 y10 y11 => K (.exit 6) ⟨[(0, .c (.dat 84 Y6 y0)), (5, .c (.own 480)), (6, .c (.own 672)), (9, .c (.own 288)), (10, .c (.int .i64 y1)), (11, .c (.pbox 11 0))], [(288, ⟨84, .prod (.int .i64) Y7, y2, 99, none⟩), (480, ⟨4, .bool, y3, 99, none⟩), (672, ⟨2, .int .i64, y4, 99, none⟩), (2277, ⟨91, .int .u64, y5, 99, none⟩), (2278, ⟨2, .int .i64, y6, 99, none⟩)], [(11, ⟨84, [.int .i64 y7, .int .i64 y8, .int .i64 y9, .int .i64 y10, .int .i64 y11, .own 2277, .own 2278], false, false⟩)], [], []⟩)
abbrev Z88.l13.s : ST := ⟨[(0, .c (.o (.dat 84 Y6))), (5, .c (.o (.own 480))), (6, .c (.o (.own 672))), (9, .c (.o (.own 288))), (10, .c (.o (.int .i64)))], [⟨288, 84, .prod (.int .i64) Y7, 99⟩, ⟨480, 4, .bool, 99⟩, ⟨672, 2, .int .i64, 99⟩], [], [], []⟩
def Z88.l13.u (n : Nat) (v : Z88.l13.s.V) (K : X -> St -> Prop) : Prop := Z88.l13 n v.1.1 v.1.2.2.2.2.1 v.2.1.1 v.2.1.2.1 v.2.1.2.2.1 (fun y0 => K (.exit 4) ⟨[(9, .c (.own 288))], [(288, ⟨84, .prod (.int .i64) Y7, y0, 99, none⟩)], [], [], []⟩)
theorem Z88.l8_ok : LT X0 63 8 Z88.l8.s Z88.l8.u :=
 lt hX Try.f63 (by kernel_rfl) (fun _ _ h => h) (D33 hX) nL (fun n v K => by kernel_rfl)
theorem Z88.l5_ok : LT X0 63 5 Z88.l5.s Z88.l5.u :=
 lt hX Try.f63 (by kernel_rfl) (fun _ _ h => h) (D33 hX) (oL (Z88.l8_ok hX) nL) (fun n v K => by kernel_rfl)
theorem Z88.l18_ok : LT X0 63 18 Z88.l18.s Z88.l18.u :=
 lt hX Try.f63 (by kernel_rfl) (fun _ _ h => h) (D33 hX) nL (fun n v K => by kernel_rfl)
theorem Z88.l13_ok : LT X0 63 13 Z88.l13.s Z88.l13.u :=
 lt hX Try.f63 (by kernel_rfl) (fun _ _ h => h) (D33 hX) (oL (Z88.l18_ok hX) nL) (fun n v K => by kernel_rfl)
theorem qN1 : CT X0 63 Z88.a Z88.u :=
 ct hX Try.f63 (by kernel_rfl) (fun _ _ h => h) (D33 hX) (oL (Z88.l5_ok hX) (oL (Z88.l13_ok hX) nL)) (fun n v K => by kernel_rfl)
def D34 : CS X0 := oC (qN1 hX) (D33 hX)
abbrev Z80.a : List TS := [.c (.o (.row 84 Y6 99)), .c (.o (.int .i64)), .c (.o (.int .i64)), .c (.o (.int .i64))]
def Z80.u (n : Nat) (v : VA Z80.a) (K : RES -> Prop) : Prop := Z80.c n v.1 v.2.1 v.2.2.1 v.2.2.2.1 (fun r0 => K ⟨.c (.row ⟨84, .prod (.int .i64) Y7, r0, 99, none⟩), []⟩)
theorem qN9 : CT X0 51 Z80.a Z80.u :=
 ct hX Try.f51 (by kernel_rfl) (fun _ _ h => h) (D34 hX) nL (fun n v K => by kernel_rfl)
def D35 : CS X0 := oC (qN9 hX) (D34 hX)
abbrev Z82.a : List TS := [.c (.boxr 63 [.dat 5 (.int .u8), .int .i64]), .c (.o (.dat 34 Y13)), .c (.o (.int .i64))]
def Z82.u (n : Nat) (v : VA Z82.a) (K : RES -> Prop) : Prop := Z82.c n v.1.1 v.1.2.1 v.2.1 v.2.2.1 (fun r0 r1 r2 => K ⟨.agg [.row ⟨84, .prod (.int .i64) Y7, r0, 99, none⟩], [[.boxr 63 [.dat 5 (.int .u8) r1, .int .i64 r2]]]⟩)
abbrev Z82.q34.s : ST := ⟨[(0, .c (.o (.pbox 0 0))), (1, .c (.o (.dat 34 Y13))), (2, .c (.o (.int .i64))), (6, .c (.o (.pbox 6 0))), (7, .c (.o (.own 224))), (8, .c (.o (.int .i64))), (9, .c (.o (.int .i64))), (10, .c (.o (.int .i64))), (13, .c (.o (.pbox 13 0))), (65, .c (.o (.int .i64))), (117, .c (.o .bool))], [⟨224, 84, .prod (.int .i64) Y7, 99⟩, ⟨1984, 2, .int .i64, 99⟩, ⟨2021, 91, .int .u64, 99⟩, ⟨1000192, 84, .prod (.int .i64) Y7, 99⟩], [⟨0, 63, [.o (.dat 5 (.int .u8)), .o (.int .i64)], false, false⟩, ⟨6, 59, [.o (.own 1000192)], false, false⟩, ⟨13, 84, [.o (.int .i64), .o (.int .i64), .o (.int .i64), .o (.int .i64), .o (.int .i64), .o (.own 2021), .o (.own 1984)], false, false⟩], [], [0]⟩
def Z82.q34.u (n : Nat) (v : Z82.q34.s.V) (K : X -> St -> Prop) : Prop := Z82.q34 n v.1.2.1 v.1.2.2.1 v.1.2.2.2.2.2.1 v.1.2.2.2.2.2.2.1 v.1.2.2.2.2.2.2.2.1 v.1.2.2.2.2.2.2.2.2.2.1 v.1.2.2.2.2.2.2.2.2.2.2.1 v.2.1.1 v.2.1.2.1 v.2.1.2.2.1 v.2.1.2.2.2.1 v.2.2.1.1 v.2.2.1.2.1 v.2.2.2.2.1.1 v.2.2.2.2.1.2.1 v.2.2.2.2.1.2.2.1 v.2.2.2.2.1.2.2.2.1 v.2.2.2.2.1.2.2.2.2.1 (fun y0 y1 y2 y3 y4 y5 y6 y7 y8 y9 y10 y11 y12 y13 y14 y15 => K .normal ⟨[(0, .c (.pbox 0 0)), (1, .c (.dat 34 Y13 y0)), (2, .c (.int .i64 y1)), (6, .c (.pbox 6 0)), (7, .c (.own 224)), (8, .c (.int .i64 y2)), (9, .c (.int .i64 y3)), (10, .c (.int .i64 y4)), (13, .c (.pbox 13 0))], [(224, ⟨84, .prod (.int .i64) Y7, y5, 99, none⟩), (1984, ⟨2, .int .i64, y6, 99, none⟩), (2021, ⟨91, .int .u64, y7, 99, none⟩), (1000192, ⟨84, .prod (.int .i64) Y7, y8, 99, none⟩)], [(0, ⟨63, [.dat 5 (.int .u8) y9, .int .i64 y10], false, false⟩), (6, ⟨59, [.own 1000192], false, false⟩), (13, ⟨84, [.int .i64 y11, .int .i64 y12, .int .i64 y13, .int .i64 y14, .int .i64 y15, .own 2021, .own 1984], false, false⟩)], [], [0]⟩)
abbrev Z82.l5.s : ST := ⟨[(0, .c (.o (.pbox 0 0))), (1, .c (.o (.dat 34 Y13))), (2, .c (.o (.int .i64))), (6, .c (.o (.pbox 6 0))), (7, .c (.o (.own 224))), (8, .c (.o (.int .i64))), (9, .c (.o (.int .i64))), (10, .c (.o (.int .i64)))], [⟨224, 84, .prod (.int .i64) Y7, 99⟩, ⟨1000192, 84, .prod (.int .i64) Y7, 99⟩], [⟨0, 63, [.o (.dat 5 (.int .u8)), .o (.int .i64)], false, false⟩, ⟨6, 59, [.o (.own 1000192)], false, false⟩], [], [0]⟩
def Z82.l5.u (n : Nat) (v : Z82.l5.s.V) (K : X -> St -> Prop) : Prop := Z82.l5 n v.1.2.1 v.1.2.2.1 v.1.2.2.2.2.2.1 v.1.2.2.2.2.2.2.1 v.1.2.2.2.2.2.2.2.1 v.2.1.1 v.2.1.2.1 v.2.2.1.1 v.2.2.1.2.1 (fun y0 y1 y2 y3 y4 y5 y6 => K (.exit 0) ⟨[(1, .c (.dat 34 Y13 y0)), (2, .c (.int .i64 y1)), (6, .c (.pbox 6 0)), (7, .c (.own 224)), (8, .c (.int .i64 y2))], [(224, ⟨84, .prod (.int .i64) Y7, y3, 99, none⟩), (1000192, ⟨84, .prod (.int .i64) Y7, y4, 99, none⟩)], [(0, ⟨63, [.dat 5 (.int .u8) y5, .int .i64 y6], false, false⟩), (6, ⟨59, [.own 1000192], false, false⟩)], [], [0]⟩)
theorem Z82.q34_ok : LT X0 49 1000034 Z82.q34.s Z82.q34.u :=
 cu hX Try.f49 (by kernel_rfl) (fun _ _ h => h) (D35 hX) nL (fun n v K => by kernel_rfl)
theorem Z82.l5_ok : LT X0 49 5 Z82.l5.s Z82.l5.u :=
 lt hX Try.f49 (by kernel_rfl) (fun _ _ h => h) (D35 hX) (oL (Z82.q34_ok hX) nL) (fun n v K => by kernel_rfl)
theorem qN7 : CT X0 49 Z82.a Z82.u :=
 ct hX Try.f49 (by kernel_rfl) (fun _ _ h => h) (D35 hX) (oL (Z82.l5_ok hX) nL) (fun n v K => by kernel_rfl)
def D36 : CS X0 := oC (qN7 hX) (D35 hX)
end
end Go.Vsi
end

section
namespace Go.Vsi
open Go.Proofs
section
variable {X0 : jG} (hX : jG.Mono X0)
include hX
abbrev Z95.a : List TS := [.c (.boxr 63 [.dat 5 (.int .u8), .int .i64]), .c (.o (.dat 34 Y13)), .c (.o (.int .i64))]
def Z95.u (n : Nat) (v : VA Z95.a) (K : RES -> Prop) : Prop := Z95.c n v.1.1 v.1.2.1 v.2.1 v.2.2.1 (fun r0 r1 r2 r3 r4 r5 => K ⟨.agg [.int .i64 r0, .bool r1, .row ⟨84, .prod (.int .i64) Y7, r2, 99, none⟩, .row ⟨84, .prod (.int .i64) Y7, r3, 99, none⟩], [[.boxr 63 [.dat 5 (.int .u8) r4, .int .i64 r5]]]⟩)
theorem qNU : CT X0 35 Z95.a Z95.u :=
 ct hX Try.f35 (by kernel_rfl) (fun _ _ h => h) (D36 hX) nL (fun n v K => by kernel_rfl)
def D37 : CS X0 := oC (qNU hX) (D36 hX)
abbrev Z58.a : List TS := [.a [.o (.int .i64), .o (.dat 91 (.int .u64))]]
def Z58.u (n : Nat) (v : VA Z58.a) (K : RES -> Prop) : Prop := Z58.c n v.1.1 v.1.2.1 (fun r0 => K ⟨.c (.row ⟨5, .int .u8, r0, 99, none⟩), []⟩)
abbrev Z58.l3.s : ST := ⟨[(1, .c (.o (.pbox 1 0))), (3, .c (.o (.own 96))), (4, .c (.o (.int .i64)))], [⟨96, 5, .int .u8, 99⟩], [⟨1, 82, [.o (.int .i64), .o (.dat 91 (.int .u64))], false, false⟩], [], []⟩
def Z58.l3.u (n : Nat) (v : Z58.l3.s.V) (K : X -> St -> Prop) : Prop := Z58.l3 n v.2.2.1.1 v.2.2.1.2.1 v.1.2.2.1 v.2.1.1 (fun y0 => K (.exit 0) ⟨[(3, .c (.own 96))], [(96, ⟨5, .int .u8, y0, 99, none⟩)], [], [], []⟩)
theorem Z58.l3_ok : LT X0 85 3 Z58.l3.s Z58.l3.u :=
 lt hX Try.f85 (by kernel_rfl) (fun _ _ h => h) (D37 hX) nL (fun n v K => by kernel_rfl)
theorem qOv : CT X0 85 Z58.a Z58.u :=
 ct hX Try.f85 (by kernel_rfl) (fun _ _ h => h) (D37 hX) (oL (Z58.l3_ok hX) nL) (fun n v K => by kernel_rfl)
def D38 : CS X0 := oC (qOv hX) (D37 hX)
abbrev Z71.a : List TS := [.c (.o (.dat 5 (.int .u8)))]
def Z71.u (n : Nat) (v : VA Z71.a) (K : RES -> Prop) : Prop := Z71.c n v.1 (fun r0 => K ⟨.c (.row ⟨5, .int .u8, r0, 99, none⟩), []⟩)
abbrev Z71.l3.s : ST := ⟨[(0, .c (.o (.dat 5 (.int .u8)))), (3, .c (.o (.own 96))), (4, .c (.o (.int .i64)))], [⟨96, 5, .int .u8, 99⟩], [], [], []⟩
def Z71.l3.u (n : Nat) (v : Z71.l3.s.V) (K : X -> St -> Prop) : Prop := Z71.l3 n v.1.1 v.1.2.2.1 v.2.1.1 (fun y0 => K (.exit 0) ⟨[(3, .c (.own 96))], [(96, ⟨5, .int .u8, y0, 99, none⟩)], [], [], []⟩)
theorem Z71.l3_ok : LT X0 84 3 Z71.l3.s Z71.l3.u :=
 lt hX Try.f84 (by kernel_rfl) (fun _ _ h => h) (D38 hX) nL (fun n v K => by kernel_rfl)
theorem qOi : CT X0 84 Z71.a Z71.u :=
 ct hX Try.f84 (by kernel_rfl) (fun _ _ h => h) (D38 hX) (oL (Z71.l3_ok hX) nL) (fun n v K => by kernel_rfl)
def D39 : CS X0 := oC (qOi hX) (D38 hX)
abbrev Z48.a : List TS := [.a [.o (.int .i64), .o (.dat 91 (.int .u64))]]
def Z48.u (n : Nat) (v : VA Z48.a) (K : RES -> Prop) : Prop := Z48.c n v.1.1 v.1.2.1 (fun r0 => K ⟨.c (.str r0), []⟩)
abbrev Z48.l8.s : ST := ⟨[(1, .c (.o (.pbox 1 0))), (3, .c (.o (.own 352))), (4, .c (.o (.own 128))), (5, .c (.o (.int .i64)))], [⟨128, 5, .int .u8, 99⟩, ⟨352, 5, .int .u8, 99⟩], [⟨1, 82, [.o (.int .i64), .o (.dat 91 (.int .u64))], false, false⟩], [], []⟩
def Z48.l8.u (n : Nat) (v : Z48.l8.s.V) (K : X -> St -> Prop) : Prop := Z48.l8 n v.2.1.2.1 v.2.2.1.1 v.2.2.1.2.1 v.1.2.2.2.1 v.2.1.1 (fun y0 => K (.exit 0) ⟨[(4, .c (.own 128))], [(128, ⟨5, .int .u8, y0, 99, none⟩)], [], [], []⟩)
theorem Z48.l8_ok : LT X0 67 8 Z48.l8.s Z48.l8.u :=
 lt hX Try.f67 (by kernel_rfl) (fun _ _ h => h) (D39 hX) nL (fun n v K => by kernel_rfl)
theorem qOF : CT X0 67 Z48.a Z48.u :=
 ct hX Try.f67 (by kernel_rfl) (fun _ _ h => h) (D39 hX) (oL (Z48.l8_ok hX) nL) (fun n v K => by kernel_rfl)
def D40 : CS X0 := oC (qOF hX) (D39 hX)
abbrev Z94.a : List TS := [.c (.o (.int .i64))]
def Z94.u (n : Nat) (v : VA Z94.a) (K : RES -> Prop) : Prop := Z94.c n v.1 (fun r0 => K ⟨.c (.str r0), []⟩)
theorem qNV : CT X0 68 Z94.a Z94.u :=
 ct hX Try.f68 (by kernel_rfl) (fun _ _ h => h) (D40 hX) nL (fun n v K => by kernel_rfl)
def D41 : CS X0 := oC (qNV hX) (D40 hX)
abbrev Z87.a : List TS := [.c (.o (.int .i64))]
def Z87.u (n : Nat) (v : VA Z87.a) (K : RES -> Prop) : Prop := Z87.c n v.1 (fun r0 => K ⟨.c (.int .i64 r0), []⟩)
theorem qN2 : CT X0 69 Z87.a Z87.u :=
 ct hX Try.f69 (by kernel_rfl) (fun _ _ h => h) (D41 hX) nL (fun n v K => by kernel_rfl)
def D42 : CS X0 := oC (qN2 hX) (D41 hX)
abbrev Z53.a : List TS := [.c (.o (.int .i64))]
def Z53.u (n : Nat) (v : VA Z53.a) (K : RES -> Prop) : Prop := Z53.c n v.1 (fun r0 => K ⟨.c (.str r0), []⟩)
abbrev Z53.l4.s : ST := ⟨[(0, .c (.o (.int .i64))), (3, .c (.o .str))], [], [], [], []⟩
def Z53.l4.u (n : Nat) (v : Z53.l4.s.V) (K : X -> St -> Prop) : Prop := Z53.l4 n v.1.1 v.1.2.1 (fun y0 => K (.exit 0) ⟨[(3, .c (.str y0))], [], [], [], []⟩)
theorem Z53.l4_ok : LT X0 70 4 Z53.l4.s Z53.l4.u :=
 lt hX Try.f70 (by kernel_rfl) (fun _ _ h => h) (D42 hX) nL (fun n v K => by kernel_rfl)
theorem qOA : CT X0 70 Z53.a Z53.u :=
 ct hX Try.f70 (by kernel_rfl) (fun _ _ h => h) (D42 hX) (oL (Z53.l4_ok hX) nL) (fun n v K => by kernel_rfl)
def D43 : CS X0 := oC (qOA hX) (D42 hX)
abbrev Z89.a : List TS := [.c (.o (.dat 34 Y13)), .a [.o (.dat 84 Y6)]]
def Z89.u (n : Nat) (v : VA Z89.a) (K : RES -> Prop) : Prop := Z89.c n v.1 v.2.1.1 (fun r0 => K ⟨.c (.row ⟨2, .int .i64, r0, 99, none⟩), []⟩)
abbrev Z89.l18.s : ST := ⟨[(0, .c (.o (.dat 34 Y13))), (3, .c (.o (.pbox 3 0))), (5, .c (.o (.own 160))), (6, .c (.o (.int .i64))), (7, .c (.o (.pbox 7 0))), (8, .c (.o (.int .i64))), (9, .c (.o (.int .i64)))], [⟨160, 2, .int .i64, 99⟩], [⟨3, 59, [.o (.dat 84 Y6)], false, false⟩, ⟨7, 84, [.o (.int .i64), .o (.int .i64), .o (.int .i64), .o (.int .i64), .o (.int .i64), .o (.dat 91 (.int .u64)), .o (.dat 2 (.int .i64))], false, false⟩], [], []⟩
def Z89.l18.u (n : Nat) (v : Z89.l18.s.V) (K : X -> St -> Prop) : Prop := Z89.l18 n v.1.1 v.1.2.2.2.1 v.2.1.1 v.2.2.1.1 v.2.2.2.1.1 v.2.2.2.1.2.1 v.2.2.2.1.2.2.1 v.2.2.2.1.2.2.2.1 v.2.2.2.1.2.2.2.2.1 v.2.2.2.1.2.2.2.2.2.1 v.2.2.2.1.2.2.2.2.2.2.1 v.1.2.2.2.2.2.1 v.1.2.2.2.2.2.2.1 (fun y0 y1 y2 y3 y4 => K (.exit 3) ⟨[(0, .c (.dat 34 Y13 y0)), (3, .c (.pbox 3 0)), (5, .c (.own 160)), (6, .c (.int .i64 y1)), (8, .c (.int .i64 y2))], [(160, ⟨2, .int .i64, y3, 99, none⟩)], [(3, ⟨59, [.dat 84 Y6 y4], false, false⟩)], [], []⟩)
abbrev Z89.l3.s : ST := ⟨[(0, .c (.o (.dat 34 Y13))), (3, .c (.o (.pbox 3 0))), (5, .c (.o (.own 160))), (6, .c (.o (.int .i64)))], [⟨160, 2, .int .i64, 99⟩], [⟨3, 59, [.o (.dat 84 Y6)], false, false⟩], [], []⟩
def Z89.l3.u (n : Nat) (v : Z89.l3.s.V) (K : X -> St -> Prop) : Prop := Z89.l3 n v.1.1 v.1.2.2.2.1 v.2.1.1 v.2.2.1.1 (fun y0 => K (.exit 0) ⟨[(5, .c (.own 160))], [(160, ⟨2, .int .i64, y0, 99, none⟩)], [], [], []⟩)
theorem Z89.l18_ok : LT X0 54 18 Z89.l18.s Z89.l18.u :=
 lt hX Try.f54 (by kernel_rfl) (fun _ _ h => h) (D43 hX) nL (fun n v K => by kernel_rfl)
theorem Z89.l3_ok : LT X0 54 3 Z89.l3.s Z89.l3.u :=
 lt hX Try.f54 (by kernel_rfl) (fun _ _ h => h) (D43 hX) (oL (Z89.l18_ok hX) nL) (fun n v K => by kernel_rfl)
theorem qN0 : CT X0 54 Z89.a Z89.u :=
 ct hX Try.f54 (by kernel_rfl) (fun _ _ h => h) (D43 hX) (oL (Z89.l3_ok hX) nL) (fun n v K => by kernel_rfl)
def D44 : CS X0 := oC (qN0 hX) (D43 hX)
abbrev Z91.a : List TS := [.c (.o (.dat 34 Y13)), .a [.o (.dat 84 Y6)], .c (.o (.int .i64))]
def Z91.u (n : Nat) (v : VA Z91.a) (K : RES -> Prop) : Prop := Z91.c n v.1 v.2.1.1 v.2.2.1 (fun r0 => K ⟨.c (.str r0), []⟩)
abbrev Z91.l13.s : ST := ⟨[(0, .c (.o (.dat 34 Y13))), (4, .c (.o (.pbox 4 0))), (7, .c (.o (.pbox 7 0))), (8, .c (.o .str)), (9, .c (.o (.int .i64)))], [], [⟨4, 59, [.o (.dat 84 Y6)], false, false⟩, ⟨7, 84, [.o (.int .i64), .o (.int .i64), .o (.int .i64), .o (.int .i64), .o (.int .i64), .o (.dat 91 (.int .u64)), .o (.dat 2 (.int .i64))], false, false⟩], [], []⟩
def Z91.l13.u (n : Nat) (v : Z91.l13.s.V) (K : X -> St -> Prop) : Prop := Z91.l13 n v.1.1 v.2.2.1.1 v.2.2.2.1.1 v.2.2.2.1.2.1 v.2.2.2.1.2.2.1 v.2.2.2.1.2.2.2.1 v.2.2.2.1.2.2.2.2.1 v.2.2.2.1.2.2.2.2.2.1 v.2.2.2.1.2.2.2.2.2.2.1 v.1.2.2.2.1 v.1.2.2.2.2.1 (fun y0 => K (.exit 1) ⟨[(8, .c (.str y0))], [], [], [], []⟩)
theorem qKL : ∀ n, (∀ v K, Z91.u n v K -> callM C X0 n 55 (qBy Z91.a v) K) /\ (∀ v K, Z91.l13.u n v K -> kH C X0 n 55 13 (Z91.l13.s.fill v) K) /\ True
 | 0 => ⟨fun _ _ h => h.elim, fun _ _ h => h.elim, trivial⟩
 | n + 1 => have ih := qKL n
  ⟨fun v K h => qEM hX (fn := Try.f55) (c := bodyOf Try.f55) (by kernel_rfl) (by kernel_rfl) (call := (orC 55 Z91.a (Z91.u n) ((D44 hX).c n))) (lp := orL 13 Z91.l13.s (Z91.l13.u n) noL) (qBR ih.1 ((D44 hX).ok n)) (qFF (ih.2.1) qBS) (P := Z91.u (n + 1) v K) (by kernel_rfl) h,
  fun v K h => qCQ hX (fn := Try.f55) (c := bodyOf Try.f55) (a := qDQ Try.f55 13) (li := qMg (C.fi 55).loops 13) (by kernel_rfl) (by kernel_rfl) (of_decide_eq_true rfl) (by kernel_rfl) (by kernel_rfl) (call := (orC 55 Z91.a (Z91.u n) ((D44 hX).c n))) (lp := noL) (again := qMk Z91.l13.s fun v' => Z91.l13.u n v' K) (qBR ih.1 ((D44 hX).ok n)) qBS (qCY fun v' h' => ih.2.1 v' K h') (P := Z91.l13.u (n + 1) v K) (by kernel_rfl) h, trivial⟩
theorem qNY : CT X0 55 Z91.a Z91.u := fun n => (qKL hX n).1
def D45 : CS X0 := oC (qNY hX) (D44 hX)
abbrev Z49.a : List TS := [.c (.o (.dat 34 Y13)), .a [.o (.dat 84 Y6)]]
def Z49.u (n : Nat) (v : VA Z49.a) (K : RES -> Prop) : Prop := Z49.c n v.1 v.2.1.1 (fun r0 => K ⟨.c (.str r0), []⟩)
theorem qOE : CT X0 37 Z49.a Z49.u :=
 ct hX Try.f37 (by kernel_rfl) (fun _ _ h => h) (D45 hX) nL (fun n v K => by kernel_rfl)
def D46 : CS X0 := oC (qOE hX) (D45 hX)
abbrev Z76.a : List TS := [.c (.boxr 123 [.row 140 Y12 99, .row 3 (.int .i64) 99]), .c (.o .str)]
def Z76.u (n : Nat) (v : VA Z76.a) (K : RES -> Prop) : Prop := Z76.c n v.1.1 v.1.2.1 v.2.1 (fun r0 r1 r2 => K ⟨.c (.int .i64 r0), [[.boxr 123 [.row ⟨140, .prod .str (.sl 2 (.int .i64)), r1, 99, none⟩, .row ⟨3, .int .i64, r2, 99, none⟩]]]⟩)
theorem qOd : CT X0 79 Z76.a Z76.u :=
 ct hX Try.f79 (by kernel_rfl) (fun _ _ h => h) (D46 hX) nL (fun n v K => by kernel_rfl)
def D47 : CS X0 := oC (qOd hX) (D46 hX)
abbrev Z74.a : List TS := [.c (.o .str)]
def Z74.u (n : Nat) (v : VA Z74.a) (K : RES -> Prop) : Prop := Z74.c n v.1 (fun r0 => K ⟨.c (.bool r0), []⟩)
abbrev Z74.l2.s : ST := ⟨[(0, .c (.o .str)), (3, .c (.o (.int .i64)))], [], [], [], []⟩
def Z74.l2.u (n : Nat) (v : Z74.l2.s.V) (K : X -> St -> Prop) : Prop := Z74.l2 n v.1.1 v.1.2.1 (fun y0 => K (.exit 0) ⟨[(0, .c (.str y0))], [], [], [], []⟩) (fun y0 => K .ret ⟨[(2, .c (.bool y0))], [], [], [], []⟩)
theorem Z74.l2_ok : LT X0 92 2 Z74.l2.s Z74.l2.u :=
 lt hX Try.f92 (by kernel_rfl) (fun _ _ h => h) (D47 hX) nL (fun n v K => by kernel_rfl)
theorem qOf : CT X0 92 Z74.a Z74.u :=
 ct hX Try.f92 (by kernel_rfl) (fun _ _ h => h) (D47 hX) (oL (Z74.l2_ok hX) nL) (fun n v K => by kernel_rfl)
def D48 : CS X0 := oC (qOf hX) (D47 hX)
abbrev Z75.a : List TS := [.c (.o .str), .c (.o (.int .i64))]
def Z75.u (n : Nat) (v : VA Z75.a) (K : RES -> Prop) : Prop := Z75.c n v.1 v.2.1 (fun r0 => K ⟨.c (.int .i64 r0), []⟩)
abbrev Z75.l1.s : ST := ⟨[(0, .c (.o .str)), (1, .c (.o (.int .i64)))], [], [], [], []⟩
def Z75.l1.u (n : Nat) (v : Z75.l1.s.V) (K : X -> St -> Prop) : Prop := Z75.l1 n v.1.1 v.1.2.1 (fun y0 => K (.exit 0) ⟨[(1, .c (.int .i64 y0))], [], [], [], []⟩)
theorem Z75.l1_ok : LT X0 80 1 Z75.l1.s Z75.l1.u :=
 lt hX Try.f80 (by kernel_rfl) (fun _ _ h => h) (D48 hX) nL (fun n v K => by kernel_rfl)
theorem qOe : CT X0 80 Z75.a Z75.u :=
 ct hX Try.f80 (by kernel_rfl) (fun _ _ h => h) (D48 hX) (oL (Z75.l1_ok hX) nL) (fun n v K => by kernel_rfl)
def D49 : CS X0 := oC (qOe hX) (D48 hX)
abbrev Z45.a : List TS := [.c (.o .str)]
def Z45.u (n : Nat) (v : VA Z45.a) (K : RES -> Prop) : Prop := Z45.c n v.1 (fun r0 r1 r2 => K ⟨.tup [.agg [.row ⟨140, .prod .str (.sl 2 (.int .i64)), r0, 99, none⟩], .c (.int .i64 r1), .c (.int .i64 r2)], []⟩)
abbrev Z45.l15.s : ST := ⟨[(0, .c (.o .str)), (2, .c (.o (.pbox 2 0))), (5, .c (.o (.pbox 15 0))), (6, .c (.o (.int .i64))), (8, .c (.o (.int .i64))), (9, .c (.o (.int .i64)))], [⟨1000064, 140, .prod .str (.sl 2 (.int .i64)), 99⟩, ⟨1000480, 140, .prod .str (.sl 2 (.int .i64)), 99⟩, ⟨1000481, 3, .int .i64, 99⟩], [⟨2, 103, [.o (.own 1000064)], false, false⟩, ⟨15, 123, [.o (.own 1000480), .o (.own 1000481)], false, false⟩], [], []⟩
def Z45.l15.u (n : Nat) (v : Z45.l15.s.V) (K : X -> St -> Prop) : Prop := Z45.l15 n v.1.1 v.1.2.2.2.1 v.1.2.2.2.2.1 v.2.1.1 v.2.1.2.1 v.2.1.2.2.1 v.1.2.2.2.2.2.1 (fun y0 y1 y2 y3 y4 y5 y6 => K (.exit 3) ⟨[(0, .c (.str y0)), (2, .c (.pbox 2 0)), (5, .c (.pbox 15 0)), (6, .c (.int .i64 y1)), (8, .c (.int .i64 y2)), (9, .c (.int .i64 y3))], [(1000064, ⟨140, .prod .str (.sl 2 (.int .i64)), y4, 99, none⟩), (1000480, ⟨140, .prod .str (.sl 2 (.int .i64)), y5, 99, none⟩), (1000481, ⟨3, .int .i64, y6, 99, none⟩)], [(2, ⟨103, [.own 1000064], false, false⟩), (15, ⟨123, [.own 1000480, .own 1000481], false, false⟩)], [], []⟩)
abbrev Z45.q12.s : ST := ⟨[(0, .c (.o .str)), (2, .c (.o (.pbox 2 0))), (5, .c (.o (.pbox 15 0))), (6, .c (.o (.int .i64))), (7, .c (.o (.int .u8))), (8, .c (.o (.int .i64))), (9, .c (.o (.int .i64))), (34, .c (.o .bool))], [⟨1000064, 140, .prod .str (.sl 2 (.int .i64)), 99⟩, ⟨1000480, 140, .prod .str (.sl 2 (.int .i64)), 99⟩, ⟨1000481, 3, .int .i64, 99⟩], [⟨2, 103, [.o (.own 1000064)], false, false⟩, ⟨15, 123, [.o (.own 1000480), .o (.own 1000481)], false, false⟩], [], []⟩
def Z45.q12.u (n : Nat) (v : Z45.q12.s.V) (K : X -> St -> Prop) : Prop := Z45.q12 n v.1.1 v.1.2.2.2.1 v.1.2.2.2.2.1 v.1.2.2.2.2.2.1 v.1.2.2.2.2.2.2.1 v.1.2.2.2.2.2.2.2.1 v.2.1.1 v.2.1.2.1 v.2.1.2.2.1 (fun y0 y1 y2 y3 y4 y5 y6 => K .normal ⟨[(0, .c (.str y0)), (2, .c (.pbox 2 0)), (5, .c (.pbox 15 0)), (6, .c (.int .i64 y1)), (8, .c (.int .i64 y2)), (9, .c (.int .i64 y3))], [(1000064, ⟨140, .prod .str (.sl 2 (.int .i64)), y4, 99, none⟩), (1000480, ⟨140, .prod .str (.sl 2 (.int .i64)), y5, 99, none⟩), (1000481, ⟨3, .int .i64, y6, 99, none⟩)], [(2, ⟨103, [.own 1000064], false, false⟩), (15, ⟨123, [.own 1000480, .own 1000481], false, false⟩)], [], []⟩) (fun y0 y1 y2 y3 y4 y5 y6 y7 y8 => K .normal ⟨[(0, .c (.str y0)), (2, .c (.pbox 2 0)), (5, .c (.pbox 15 0)), (6, .c (.int .i64 y1)), (8, .c (.int .i64 y2)), (9, .c (.int .i64 y3))], [(1000064, ⟨140, .prod .str (.sl 2 (.int .i64)), y4, 99, none⟩), (1000480, ⟨140, .prod .str (.sl 2 (.int .i64)), y5, 99, none⟩), (1000481, ⟨3, .int .i64, y6, 99, none⟩)], [(2, ⟨103, [.own 1000064], false, false⟩), (15, ⟨123, [.own 1000480, .vw 1000481 0 y8], false, false⟩)], [], []⟩) (fun y0 y1 y2 y3 y4 y5 y6 => K .normal ⟨[(0, .c (.str y0)), (2, .c (.pbox 2 0)), (5, .c (.pbox 15 0)), (6, .c (.int .i64 y1)), (8, .c (.int .i64 y2)), (9, .c (.int .i64 y3))], [(3712, ⟨3, .int .i64, y4, 99, none⟩), (1000064, ⟨140, .prod .str (.sl 2 (.int .i64)), y5, 99, none⟩), (1000480, ⟨140, .prod .str (.sl 2 (.int .i64)), y6, 99, none⟩)], [(2, ⟨103, [.own 1000064], false, false⟩), (15, ⟨123, [.own 1000480, .own 3712], false, false⟩)], [], []⟩)
abbrev Z45.l5.s : ST := ⟨[(0, .c (.o .str)), (2, .c (.o (.pbox 2 0))), (5, .c (.o (.pbox 15 0))), (6, .c (.o (.int .i64)))], [⟨1000064, 140, .prod .str (.sl 2 (.int .i64)), 99⟩, ⟨1000480, 140, .prod .str (.sl 2 (.int .i64)), 99⟩, ⟨1000481, 3, .int .i64, 99⟩], [⟨2, 103, [.o (.own 1000064)], false, false⟩, ⟨15, 123, [.o (.own 1000480), .o (.own 1000481)], false, false⟩], [], []⟩
def Z45.l5.u (n : Nat) (v : Z45.l5.s.V) (K : X -> St -> Prop) : Prop := Z45.l5 n v.1.1 v.1.2.2.2.1 v.2.1.1 v.2.1.2.1 v.2.1.2.2.1 (fun y0 y1 y2 y3 => K (.exit 0) ⟨[(0, .c (.str y0)), (2, .c (.pbox 2 0)), (5, .c (.pbox 15 0))], [(1000064, ⟨140, .prod .str (.sl 2 (.int .i64)), y1, 99, none⟩), (1000480, ⟨140, .prod .str (.sl 2 (.int .i64)), y2, 99, none⟩), (1000481, ⟨3, .int .i64, y3, 99, none⟩)], [(2, ⟨103, [.own 1000064], false, false⟩), (15, ⟨123, [.own 1000480, .own 1000481], false, false⟩)], [], []⟩) (fun y0 y1 y2 => K .ret ⟨[(2, .c (.pbox 2 0)), (3, .c (.int .i64 y0)), (4, .c (.int .i64 y1))], [(3872, ⟨140, .prod .str (.sl 2 (.int .i64)), y2, 99, none⟩)], [(2, ⟨103, [.own 3872], false, false⟩)], [], []⟩)
theorem Z45.l15_ok : LT X0 65 15 Z45.l15.s Z45.l15.u :=
 lt hX Try.f65 (by kernel_rfl) (fun _ _ h => h) (D49 hX) nL (fun n v K => by kernel_rfl)
theorem Z45.q12_ok : LT X0 65 1000012 Z45.q12.s Z45.q12.u :=
 cu hX Try.f65 (by kernel_rfl) (fun _ _ h => h) (D49 hX) (oL (Z45.l15_ok hX) nL) (fun n v K => by kernel_rfl)
theorem Z45.l5_ok : LT X0 65 5 Z45.l5.s Z45.l5.u :=
 lt hX Try.f65 (by kernel_rfl) (fun _ _ h => h) (D49 hX) (oL (Z45.q12_ok hX) nL) (fun n v K => by kernel_rfl)
theorem qOI : CT X0 65 Z45.a Z45.u :=
 ct hX Try.f65 (by kernel_rfl) (fun _ _ h => h) (D49 hX) (oL (Z45.l5_ok hX) nL) (fun n v K => by kernel_rfl)
def D50 : CS X0 := oC (qOI hX) (D49 hX)
abbrev Z56.a : List TS := [.c (.o (.int .u8))]
def Z56.u (n : Nat) (v : VA Z56.a) (K : RES -> Prop) : Prop := Z56.c n v.1 (fun r0 => K ⟨.c (.int .i64 r0), []⟩)
theorem qOx : CT X0 99 Z56.a Z56.u :=
 ct hX Try.f99 (by kernel_rfl) (fun _ _ h => h) (D50 hX) nL (fun n v K => by kernel_rfl)
def D51 : CS X0 := oC (qOx hX) (D50 hX)
abbrev Z43.a : List TS := [.c (.o .str)]
def Z43.u (n : Nat) (v : VA Z43.a) (K : RES -> Prop) : Prop := Z43.c n v.1 (fun r0 r1 r2 => K ⟨.tup [.agg [.int .i64 r0, .row ⟨91, .int .u64, r1, 99, none⟩], .c (.bool r2)], []⟩)
abbrev Z43.l13.s : ST := ⟨[(0, .c (.o .str)), (2, .c (.o (.pbox 2 0))), (4, .c (.o (.own 128))), (5, .c (.o (.int .i64))), (6, .c (.o (.int .i64))), (7, .c (.o (.int .i64)))], [⟨128, 5, .int .u8, 99⟩, ⟨1000065, 91, .int .u64, 99⟩], [⟨2, 82, [.o (.int .i64), .o (.own 1000065)], false, false⟩], [], []⟩
def Z43.l13.u (n : Nat) (v : Z43.l13.s.V) (K : X -> St -> Prop) : Prop := Z43.l13 n v.1.1 v.1.2.2.2.1 v.1.2.2.2.2.1 v.2.1.2.1 v.2.2.1.1 v.1.2.2.2.2.2.1 v.2.1.1 (fun y0 y1 y2 y3 y4 => K (.exit 2) ⟨[(0, .c (.str y0)), (2, .c (.pbox 2 0)), (4, .c (.own 128)), (5, .c (.int .i64 y1))], [(128, ⟨5, .int .u8, y2, 99, none⟩), (1000065, ⟨91, .int .u64, y3, 99, none⟩)], [(2, ⟨82, [.int .i64 y4, .own 1000065], false, false⟩)], [], []⟩)
abbrev Z43.l5.s : ST := ⟨[(0, .c (.o .str)), (2, .c (.o (.pbox 2 0))), (4, .c (.o (.own 128))), (5, .c (.o (.int .i64)))], [⟨128, 5, .int .u8, 99⟩, ⟨1000065, 91, .int .u64, 99⟩], [⟨2, 82, [.o (.int .i64), .o (.own 1000065)], false, false⟩], [], []⟩
def Z43.l5.u (n : Nat) (v : Z43.l5.s.V) (K : X -> St -> Prop) : Prop := Z43.l5 n v.1.1 v.1.2.2.2.1 v.2.1.1 v.2.1.2.1 v.2.2.1.1 (fun y0 y1 y2 => K (.exit 0) ⟨[(2, .c (.pbox 2 0)), (4, .c (.own 128))], [(128, ⟨5, .int .u8, y0, 99, none⟩), (1000065, ⟨91, .int .u64, y1, 99, none⟩)], [(2, ⟨82, [.int .i64 y2, .own 1000065], false, false⟩)], [], []⟩) (fun y0 y1 y2 => K .ret ⟨[(2, .c (.pbox 2 0)), (3, .c (.bool y0))], [(1729, ⟨91, .int .u64, y1, 99, none⟩)], [(2, ⟨82, [.int .i64 y2, .own 1729], false, false⟩)], [], []⟩)
theorem Z43.l13_ok : LT X0 93 13 Z43.l13.s Z43.l13.u :=
 lt hX Try.f93 (by kernel_rfl) (fun _ _ h => h) (D51 hX) nL (fun n v K => by kernel_rfl)
theorem Z43.l5_ok : LT X0 93 5 Z43.l5.s Z43.l5.u :=
 lt hX Try.f93 (by kernel_rfl) (fun _ _ h => h) (D51 hX) (oL (Z43.l13_ok hX) nL) (fun n v K => by kernel_rfl)
theorem qOK : CT X0 93 Z43.a Z43.u :=
 ct hX Try.f93 (by kernel_rfl) (fun _ _ h => h) (D51 hX) (oL (Z43.l5_ok hX) nL) (fun n v K => by kernel_rfl)
def D52 : CS X0 := oC (qOK hX) (D51 hX)
abbrev Z86.a : List TS := [.a [.o (.dat 140 Y12)], .c (.o (.int .i64))]
def Z86.u (n : Nat) (v : VA Z86.a) (K : RES -> Prop) : Prop := Z86.c n v.1.1 v.2.1 (fun r0 => K ⟨.c (.int .i64 r0), []⟩)
abbrev Z86.q8.s : ST := ⟨[(2, .c (.o (.pbox 2 0))), (5, .c (.o (.dat 2 (.int .i64)))), (6, .c (.o (.int .i64)))], [], [⟨2, 103, [.o (.dat 140 Y12)], false, false⟩], [], []⟩
def Z86.q8.u (n : Nat) (v : Z86.q8.s.V) (K : X -> St -> Prop) : Prop := Z86.q8 n v.1.2.1 v.1.2.2.1 v.2.2.1.1 (fun y0 => K .ret ⟨[(4, .c (.int .i64 y0))], [], [], [], []⟩) (fun y0 y1 y2 => K .normal ⟨[(2, .c (.pbox 2 0)), (5, .c (.dat 2 (.int .i64) y0)), (6, .c (.int .i64 y1))], [], [(2, ⟨103, [.dat 140 Y12 y2], false, false⟩)], [], []⟩)
abbrev Z86.l5.s : ST := ⟨[(2, .c (.o (.pbox 2 0))), (5, .c (.o (.dat 2 (.int .i64)))), (6, .c (.o (.int .i64)))], [], [⟨2, 103, [.o (.dat 140 Y12)], false, false⟩], [], []⟩
def Z86.l5.u (n : Nat) (v : Z86.l5.s.V) (K : X -> St -> Prop) : Prop := Z86.l5 n v.1.2.1 v.1.2.2.1 v.2.2.1.1 (K (.exit 0) ⟨[], [], [], [], []⟩) (fun y0 => K .ret ⟨[(4, .c (.int .i64 y0))], [], [], [], []⟩)
theorem Z86.q8_ok : LT X0 94 1000008 Z86.q8.s Z86.q8.u :=
 cu hX Try.f94 (by kernel_rfl) (fun _ _ h => h) (D52 hX) nL (fun n v K => by kernel_rfl)
theorem Z86.l5_ok : LT X0 94 5 Z86.l5.s Z86.l5.u :=
 lt hX Try.f94 (by kernel_rfl) (fun _ _ h => h) (D52 hX) (oL (Z86.q8_ok hX) nL) (fun n v K => by kernel_rfl)
theorem qN3 : CT X0 94 Z86.a Z86.u :=
 ct hX Try.f94 (by kernel_rfl) (fun _ _ h => h) (D52 hX) (oL (Z86.l5_ok hX) nL) (fun n v K => by kernel_rfl)
def D53 : CS X0 := oC (qN3 hX) (D52 hX)
abbrev Z60.a : List TS := [.c (.o .str), .c (.o (.int .i64))]
def Z60.u (n : Nat) (v : VA Z60.a) (K : RES -> Prop) : Prop := Z60.c n v.1 v.2.1 (fun r0 => K ⟨.c (.int .i64 r0), []⟩)
abbrev Z60.l5.s : ST := ⟨[(0, .c (.o .str)), (1, .c (.o (.int .i64))), (5, .c (.o (.int .i64))), (6, .c (.o (.int .i64)))], [], [], [], []⟩
def Z60.l5.u (n : Nat) (v : Z60.l5.s.V) (K : X -> St -> Prop) : Prop := Z60.l5 n v.1.1 v.1.2.1 v.1.2.2.1 v.1.2.2.2.1 (fun y0 y1 => K (.exit 0) ⟨[(1, .c (.int .i64 y0)), (5, .c (.int .i64 y1))], [], [], [], []⟩) (fun y0 => K .ret ⟨[(4, .c (.int .i64 y0))], [], [], [], []⟩)
theorem Z60.l5_ok : LT X0 95 5 Z60.l5.s Z60.l5.u :=
 lt hX Try.f95 (by kernel_rfl) (fun _ _ h => h) (D53 hX) nL (fun n v K => by kernel_rfl)
theorem qOt : CT X0 95 Z60.a Z60.u :=
 ct hX Try.f95 (by kernel_rfl) (fun _ _ h => h) (D53 hX) (oL (Z60.l5_ok hX) nL) (fun n v K => by kernel_rfl)
def D54 : CS X0 := oC (qOt hX) (D53 hX)
abbrev Z77.a : List TS := [.c (.o (.dat 34 Y13)), .a [.o (.dat 140 Y12)], .c (.o (.int .i64))]
def Z77.u (n : Nat) (v : VA Z77.a) (K : RES -> Prop) : Prop := Z77.c n v.1 v.2.1.1 v.2.2.1 (fun r0 r1 => K ⟨.tup [.c (.int .i64 r0), .c (.int .i64 r1)], []⟩)
abbrev Z77.l19.s : ST := ⟨[(0, .c (.o (.dat 34 Y13))), (2, .c (.o (.int .i64))), (4, .c (.o (.pbox 4 0))), (12, .c (.o (.dat 2 (.int .i64)))), (13, .c (.o (.int .i64))), (14, .c (.o (.int .i64)))], [], [⟨4, 103, [.o (.dat 140 Y12)], false, false⟩], [], []⟩
def Z77.l19.u (n : Nat) (v : Z77.l19.s.V) (K : X -> St -> Prop) : Prop := Z77.l19 n v.1.1 v.1.2.1 v.1.2.2.2.1 v.1.2.2.2.2.1 v.2.2.1.1 v.1.2.2.2.2.2.1 (fun y0 y1 y2 y3 => K (.exit 0) ⟨[(0, .c (.dat 34 Y13 y0)), (4, .c (.pbox 4 0)), (12, .c (.dat 2 (.int .i64) y1)), (13, .c (.int .i64 y2))], [], [(4, ⟨103, [.dat 140 Y12 y3], false, false⟩)], [], []⟩) (fun y0 y1 => K .ret ⟨[(6, .c (.int .i64 y0)), (7, .c (.int .i64 y1))], [], [], [], []⟩)
abbrev Z77.l24.s : ST := ⟨[(0, .c (.o (.dat 34 Y13))), (4, .c (.o (.pbox 4 0))), (12, .c (.o (.dat 2 (.int .i64)))), (13, .c (.o (.int .i64))), (15, .c (.o (.int .i64)))], [], [⟨4, 103, [.o (.dat 140 Y12)], false, false⟩], [], []⟩
def Z77.l24.u (n : Nat) (v : Z77.l24.s.V) (K : X -> St -> Prop) : Prop := Z77.l24 n v.1.1 v.1.2.2.1 v.1.2.2.2.1 v.2.2.1.1 v.1.2.2.2.2.1 (K (.exit 2) ⟨[], [], [], [], []⟩) (fun y0 y1 => K .ret ⟨[(6, .c (.int .i64 y0)), (7, .c (.int .i64 y1))], [], [], [], []⟩)
theorem qKN : ∀ n, (∀ v K, Z77.u n v K -> callM C X0 n 81 (qBy Z77.a v) K) /\ (∀ v K, Z77.l19.u n v K -> kH C X0 n 81 19 (Z77.l19.s.fill v) K) /\ (∀ v K, Z77.l24.u n v K -> kH C X0 n 81 24 (Z77.l24.s.fill v) K) /\ True
 | 0 => ⟨fun _ _ h => h.elim, fun _ _ h => h.elim, fun _ _ h => h.elim, trivial⟩
 | n + 1 => have ih := qKN n
  ⟨fun v K h => qEM hX (fn := Try.f81) (c := bodyOf Try.f81) (by kernel_rfl) (by kernel_rfl) (call := (orC 81 Z77.a (Z77.u n) ((D54 hX).c n))) (lp := orL 19 Z77.l19.s (Z77.l19.u n) (orL 24 Z77.l24.s (Z77.l24.u n) noL)) (qBR ih.1 ((D54 hX).ok n)) (qFF (ih.2.1) (qFF (ih.2.2.1) qBS)) (P := Z77.u (n + 1) v K) (by kernel_rfl) h,
  fun v K h => qCQ hX (fn := Try.f81) (c := bodyOf Try.f81) (a := qDQ Try.f81 19) (li := qMg (C.fi 81).loops 19) (by kernel_rfl) (by kernel_rfl) (of_decide_eq_true rfl) (by kernel_rfl) (by kernel_rfl) (call := (orC 81 Z77.a (Z77.u n) ((D54 hX).c n))) (lp := noL) (again := qMk Z77.l19.s fun v' => Z77.l19.u n v' K) (qBR ih.1 ((D54 hX).ok n)) qBS (qCY fun v' h' => ih.2.1 v' K h') (P := Z77.l19.u (n + 1) v K) (by kernel_rfl) h,
  fun v K h => qCQ hX (fn := Try.f81) (c := bodyOf Try.f81) (a := qDQ Try.f81 24) (li := qMg (C.fi 81).loops 24) (by kernel_rfl) (by kernel_rfl) (of_decide_eq_true rfl) (by kernel_rfl) (by kernel_rfl) (call := (orC 81 Z77.a (Z77.u n) ((D54 hX).c n))) (lp := noL) (again := qMk Z77.l24.s fun v' => Z77.l24.u n v' K) (qBR ih.1 ((D54 hX).ok n)) qBS (qCY fun v' h' => ih.2.2.1 v' K h') (P := Z77.l24.u (n + 1) v K) (by kernel_rfl) h, trivial⟩
theorem qOc : CT X0 81 Z77.a Z77.u := fun n => (qKN hX n).1
def D55 : CS X0 := oC (qOc hX) (D54 hX)
abbrev Z83.a : List TS := [.c (.boxr 130 [.row 84 Y6 99, .row 2 (.int .i64) 99]), .c (.o (.dat 34 Y13)), .a [.o (.dat 140 Y12)], .c (.o (.int .i64))]
def Z83.u (n : Nat) (v : VA Z83.a) (K : RES -> Prop) : Prop := Z83.c n v.1.1 v.1.2.1 v.2.1 v.2.2.1.1 v.2.2.2.1 (fun r0 r1 r2 => K ⟨.c (.int .i64 r0), [[.boxr 130 [.row ⟨84, .prod (.int .i64) Y7, r1, 99, none⟩, .row ⟨2, .int .i64, r2, 99, none⟩]]]⟩)
abbrev Z83.l17.s : ST := ⟨[(0, .c (.o (.pbox 0 0))), (1, .c (.o (.dat 34 Y13))), (3, .c (.o (.int .i64))), (6, .c (.o (.pbox 6 0))), (9, .c (.o (.pbox 9 0))), (11, .c (.o (.dat 2 (.int .i64)))), (13, .c (.o (.int .i64)))], [⟨453, 91, .int .u64, 99⟩, ⟨1000000, 84, .prod (.int .i64) Y7, 99⟩, ⟨1000001, 2, .int .i64, 99⟩, ⟨1000294, 2, .int .i64, 99⟩], [⟨0, 130, [.o (.own 1000000), .o (.own 1000001)], false, false⟩, ⟨6, 103, [.o (.dat 140 Y12)], false, false⟩, ⟨9, 84, [.o (.int .i64), .o (.int .i64), .o (.int .i64), .o (.int .i64), .o (.int .i64), .o (.own 453), .o (.own 1000294)], false, false⟩], [], [0]⟩
def Z83.l17.u (n : Nat) (v : Z83.l17.s.V) (K : X -> St -> Prop) : Prop := Z83.l17 n v.1.2.1 v.1.2.2.1 v.1.2.2.2.2.2.1 v.2.1.1 v.2.2.2.1.1 v.2.2.2.2.1.1 v.2.2.2.2.1.2.1 v.2.2.2.2.1.2.2.1 v.2.2.2.2.1.2.2.2.1 v.2.2.2.2.1.2.2.2.2.1 v.1.2.2.2.2.2.2.1 v.2.1.2.1 v.2.1.2.2.1 v.2.1.2.2.2.1 (fun y0 y1 y2 y3 y4 y5 y6 y7 y8 y9 => K (.exit 0) ⟨[(0, .c (.pbox 0 0)), (3, .c (.int .i64 y0)), (9, .c (.pbox 9 0))], [(453, ⟨91, .int .u64, y1, 99, none⟩), (1000000, ⟨84, .prod (.int .i64) Y7, y2, 99, none⟩), (1000001, ⟨2, .int .i64, y3, 99, none⟩), (1000294, ⟨2, .int .i64, y4, 99, none⟩)], [(0, ⟨130, [.own 1000000, .own 1000001], false, false⟩), (9, ⟨84, [.int .i64 y5, .int .i64 y6, .int .i64 y7, .int .i64 y8, .int .i64 y9, .own 453, .own 1000294], false, false⟩)], [], [0]⟩)
theorem qKM : ∀ n, (∀ v K, Z83.u n v K -> callM C X0 n 82 (qBy Z83.a v) K) /\ (∀ v K, Z83.l17.u n v K -> kH C X0 n 82 17 (Z83.l17.s.fill v) K) /\ True
 | 0 => ⟨fun _ _ h => h.elim, fun _ _ h => h.elim, trivial⟩
 | n + 1 => have ih := qKM n
  ⟨fun v K h => qEM hX (fn := Try.f82) (c := bodyOf Try.f82) (by kernel_rfl) (by kernel_rfl) (call := (orC 82 Z83.a (Z83.u n) ((D55 hX).c n))) (lp := orL 17 Z83.l17.s (Z83.l17.u n) noL) (qBR ih.1 ((D55 hX).ok n)) (qFF (ih.2.1) qBS) (P := Z83.u (n + 1) v K) (by kernel_rfl) h,
  fun v K h => qCQ hX (fn := Try.f82) (c := bodyOf Try.f82) (a := qDQ Try.f82 17) (li := qMg (C.fi 82).loops 17) (by kernel_rfl) (by kernel_rfl) (of_decide_eq_true rfl) (by kernel_rfl) (by kernel_rfl) (call := (orC 82 Z83.a (Z83.u n) ((D55 hX).c n))) (lp := noL) (again := qMk Z83.l17.s fun v' => Z83.l17.u n v' K) (qBR ih.1 ((D55 hX).ok n)) qBS (qCY fun v' h' => ih.2.1 v' K h') (P := Z83.l17.u (n + 1) v K) (by kernel_rfl) h, trivial⟩
theorem qN6 : CT X0 82 Z83.a Z83.u := fun n => (qKM hX n).1
def D56 : CS X0 := oC (qN6 hX) (D55 hX)
abbrev Z90.a : List TS := [.c (.o (.dat 34 Y13)), .a [.o (.dat 140 Y12)], .c (.o (.int .i64))]
def Z90.u (n : Nat) (v : VA Z90.a) (K : RES -> Prop) : Prop := Z90.c n v.1 v.2.1.1 v.2.2.1 (fun r0 r1 r2 => K ⟨.tup [.agg [.row ⟨84, .prod (.int .i64) Y7, r0, 99, none⟩], .c (.int .i64 r1), .c (.int .i64 r2)], []⟩)
abbrev Z90.l11.s : ST := ⟨[(0, .c (.o (.dat 34 Y13))), (6, .c (.o (.pbox 6 0))), (9, .c (.o (.pbox 9 0))), (12, .c (.o (.pbox 30 0))), (13, .c (.o (.own 416))), (14, .c (.o (.int .i64)))], [⟨416, 2, .int .i64, 99⟩, ⟨512, 84, .prod (.int .i64) Y7, 99⟩, ⟨1000192, 84, .prod (.int .i64) Y7, 99⟩, ⟨1000960, 84, .prod (.int .i64) Y7, 99⟩, ⟨1000961, 2, .int .i64, 99⟩], [⟨6, 59, [.o (.own 1000192)], false, false⟩, ⟨9, 59, [.o (.own 512)], false, false⟩, ⟨30, 130, [.o (.own 1000960), .o (.own 1000961)], false, false⟩], [], []⟩
def Z90.l11.u (n : Nat) (v : Z90.l11.s.V) (K : X -> St -> Prop) : Prop := Z90.l11 n v.1.1 v.2.1.2.1 v.2.1.2.2.1 v.2.1.2.2.2.1 v.2.1.2.2.2.2.1 v.1.2.2.2.2.2.1 v.2.1.1 (fun y0 y1 y2 => K (.exit 0) ⟨[(6, .c (.pbox 6 0)), (12, .c (.pbox 30 0))], [(1000192, ⟨84, .prod (.int .i64) Y7, y0, 99, none⟩), (1000960, ⟨84, .prod (.int .i64) Y7, y1, 99, none⟩), (1000961, ⟨2, .int .i64, y2, 99, none⟩)], [(6, ⟨59, [.own 1000192], false, false⟩), (30, ⟨130, [.own 1000960, .own 1000961], false, false⟩)], [], []⟩) (fun y0 y1 y2 => K .ret ⟨[(6, .c (.pbox 6 0)), (7, .c (.int .i64 y0)), (8, .c (.int .i64 y1))], [(512, ⟨84, .prod (.int .i64) Y7, y2, 99, none⟩)], [(6, ⟨59, [.own 512], false, false⟩)], [], []⟩)
theorem Z90.l11_ok : LT X0 66 11 Z90.l11.s Z90.l11.u :=
 lt hX Try.f66 (by kernel_rfl) (fun _ _ h => h) (D56 hX) nL (fun n v K => by kernel_rfl)
theorem qNZ : CT X0 66 Z90.a Z90.u :=
 ct hX Try.f66 (by kernel_rfl) (fun _ _ h => h) (D56 hX) (oL (Z90.l11_ok hX) nL) (fun n v K => by kernel_rfl)
def D57 : CS X0 := oC (qNZ hX) (D56 hX)
abbrev Z44.a : List TS := [.c (.o (.dat 34 Y13)), .c (.o .str)]
def Z44.u (n : Nat) (v : VA Z44.a) (K : RES -> Prop) : Prop := Z44.c n v.1 v.2.1 (fun r0 r1 r2 => K ⟨.tup [.agg [.row ⟨84, .prod (.int .i64) Y7, r0, 99, none⟩], .c (.int .i64 r1), .c (.int .i64 r2)], []⟩)
theorem qOJ : CT X0 52 Z44.a Z44.u :=
 ct hX Try.f52 (by kernel_rfl) (fun _ _ h => h) (D57 hX) nL (fun n v K => by kernel_rfl)
def D58 : CS X0 := oC (qOJ hX) (D57 hX)
abbrev Z72.a : List TS := [.a [.o (.dat 34 Y13), .o (.dat 52 Y2), .o (.int .i64)]]
def Z72.u (n : Nat) (v : VA Z72.a) (K : RES -> Prop) : Prop := Z72.c n v.1.1 v.1.2.1 v.1.2.2.1 (fun r0 => K ⟨.c (.row ⟨61, .prod (.int .i64) Y4, r0, 99, none⟩), []⟩)
abbrev Z72.l3.s : ST := ⟨[(1, .c (.o (.pbox 1 0))), (3, .c (.o (.own 96))), (4, .c (.o (.int .i64)))], [⟨96, 61, .prod (.int .i64) Y4, 99⟩], [⟨1, 27, [.o (.dat 34 Y13), .o (.dat 52 Y2), .o (.int .i64)], false, false⟩], [], []⟩
def Z72.l3.u (n : Nat) (v : Z72.l3.s.V) (K : X -> St -> Prop) : Prop := Z72.l3 n v.2.2.1.1 v.2.2.1.2.1 v.2.2.1.2.2.1 v.1.2.2.1 v.2.1.1 (fun y0 => K (.exit 0) ⟨[(3, .c (.own 96))], [(96, ⟨61, .prod (.int .i64) Y4, y0, 99, none⟩)], [], [], []⟩)
theorem Z72.l3_ok : LT X0 53 3 Z72.l3.s Z72.l3.u :=
 lt hX Try.f53 (by kernel_rfl) (fun _ _ h => h) (D58 hX) nL (fun n v K => by kernel_rfl)
theorem qOh : CT X0 53 Z72.a Z72.u :=
 ct hX Try.f53 (by kernel_rfl) (fun _ _ h => h) (D58 hX) (oL (Z72.l3_ok hX) nL) (fun n v K => by kernel_rfl)
def D59 : CS X0 := oC (qOh hX) (D58 hX)
abbrev Z34.a : List TS := [.a [.o (.dat 34 Y13), .o (.dat 52 Y2), .o (.int .i64)], .c (.o .bool), .c (.o .str), .c (.o .str)]
def Z34.u (n : Nat) (v : VA Z34.a) (K : RES -> Prop) : Prop := Z34.c n v.1.1 v.1.2.1 v.1.2.2.1 v.2.1 v.2.2.1 v.2.2.2.1 (fun r0 r1 r2 r3 r4 => K ⟨.tup [.agg [.row ⟨34, .prod .str (.int .i64), r0, 99, none⟩, .row ⟨52, .prod (.int .i64) (.sl 61 Y3), r1, 99, none⟩, .int .i64 r2], .c (.int .i64 r3), .c (.int .i64 r4)], []⟩)
abbrev Z34.q10.s : ST := ⟨[(1, .c (.o .bool)), (4, .c (.o (.pbox 4 0))), (8, .c (.o (.pbox 8 0))), (11, .c (.o (.pbox 11 0))), (12, .c (.o (.pbox 12 0))), (15, .c (.o (.pbox 15 0)))], [⟨768, 34, .prod .str (.int .i64), 99⟩, ⟨769, 52, .prod (.int .i64) (.sl 61 Y3), 99⟩, ⟨928, 84, .prod (.int .i64) Y7, 99⟩, ⟨1184, 84, .prod (.int .i64) Y7, 99⟩, ⟨1000256, 34, .prod .str (.int .i64), 99⟩, ⟨1000257, 52, .prod (.int .i64) (.sl 61 Y3), 99⟩], [⟨4, 27, [.o (.dat 34 Y13), .o (.dat 52 Y2), .o (.int .i64)], false, false⟩, ⟨8, 27, [.o (.own 1000256), .o (.own 1000257), .o (.int .i64)], false, false⟩, ⟨11, 27, [.o (.own 768), .o (.own 769), .o (.int .i64)], false, false⟩, ⟨12, 59, [.o (.own 928)], false, false⟩, ⟨15, 59, [.o (.own 1184)], false, false⟩], [], []⟩
def Z34.q10.u (n : Nat) (v : Z34.q10.s.V) (K : X -> St -> Prop) : Prop := Z34.q10 n v.1.1 v.2.1.1 v.2.1.2.1 v.2.1.2.2.1 v.2.1.2.2.2.1 v.2.1.2.2.2.2.1 v.2.1.2.2.2.2.2.1 v.2.2.1.1 v.2.2.1.2.1 v.2.2.1.2.2.1 v.2.2.2.1.2.2.1 v.2.2.2.2.1.2.2.1 (fun y0 y1 y2 y3 y4 => K .ret ⟨[(8, .c (.pbox 8 0)), (9, .c (.int .i64 y0)), (10, .c (.int .i64 y1))], [(768, ⟨34, .prod .str (.int .i64), y2, 99, none⟩), (769, ⟨52, .prod (.int .i64) (.sl 61 Y3), y3, 99, none⟩)], [(8, ⟨27, [.own 768, .own 769, .int .i64 y4], false, false⟩)], [], []⟩)
theorem Z34.q10_ok : LT X0 36 1000010 Z34.q10.s Z34.q10.u :=
 cu hX Try.f36 (by kernel_rfl) (fun _ _ h => h) (D59 hX) nL (fun n v K => by kernel_rfl)
theorem qOU : CT X0 36 Z34.a Z34.u :=
 ct hX Try.f36 (by kernel_rfl) (fun _ _ h => h) (D59 hX) (oL (Z34.q10_ok hX) nL) (fun n v K => by kernel_rfl)
def D60 : CS X0 := oC (qOU hX) (D59 hX)
abbrev Z66.a : List TS := [.c (.boxr 63 [.dat 5 (.int .u8), .int .i64]), .c (.o (.int .i64)), .c (.o (.int .i64))]
def Z66.u (n : Nat) (v : VA Z66.a) (K : RES -> Prop) : Prop := Z66.c n v.1.1 v.1.2.1 v.2.1 v.2.2.1 (fun r0 r1 r2 => K ⟨.c (.int .i64 r0), [[.boxr 63 [.dat 5 (.int .u8) r1, .int .i64 r2]]]⟩)
theorem qOn : CT X0 14 Z66.a Z66.u :=
 ct hX Try.f14 (by kernel_rfl) (fun _ _ h => h) (D60 hX) nL (fun n v K => by kernel_rfl)
def D61 : CS X0 := oC (qOn hX) (D60 hX)
abbrev Z68.a : List TS := [.c (.boxr 63 [.dat 5 (.int .u8), .int .i64])]
def Z68.u (n : Nat) (v : VA Z68.a) (K : RES -> Prop) : Prop := Z68.c n v.1.1 v.1.2.1 (fun r0 r1 r2 r3 r4 => K ⟨.agg [.dat 34 Y13 r0, .dat 52 Y2 r1, .int .i64 r2], [[.boxr 63 [.dat 5 (.int .u8) r3, .int .i64 r4]]]⟩)
abbrev Z68.q13.s : ST := ⟨[(0, .c (.o (.pbox 0 0))), (2, .c (.o (.pbox 2 0))), (3, .c (.o (.pbox 3 0))), (4, .c (.o (.int .i64))), (5, .c (.o (.int .i64))), (6, .c (.o (.pbox 6 0))), (17, .c (.o (.int .i64))), (44, .c (.o .bool))], [⟨1000064, 34, .prod .str (.int .i64), 99⟩, ⟨1000065, 52, .prod (.int .i64) (.sl 61 Y3), 99⟩, ⟨1000096, 34, .prod .str (.int .i64), 0⟩, ⟨1000097, 52, .prod (.int .i64) (.sl 61 Y3), 99⟩], [⟨0, 63, [.o (.dat 5 (.int .u8)), .o (.int .i64)], false, false⟩, ⟨2, 27, [.o (.own 1000064), .o (.own 1000065), .o (.int .i64)], false, false⟩, ⟨3, 27, [.o (.own 1000096), .o (.own 1000097), .o (.int .i64)], false, false⟩, ⟨6, 27, [.o (.own 1000096), .o (.own 1000097), .o (.int .i64)], false, false⟩], [], [0]⟩
def Z68.q13.u (n : Nat) (v : Z68.q13.s.V) (K : X -> St -> Prop) : Prop := Z68.q13 n v.1.2.2.2.1 v.1.2.2.2.2.1 v.1.2.2.2.2.2.2.1 v.1.2.2.2.2.2.2.2.1 v.2.1.1 v.2.1.2.1 v.2.1.2.2.1 v.2.1.2.2.2.1 v.2.2.1.1 v.2.2.1.2.1 v.2.2.2.1.2.2.1 v.2.2.2.2.1.2.2.1 v.2.2.2.2.2.1.2.2.1 (fun y0 y1 y2 y3 y4 y5 y6 y7 y8 y9 y10 y11 y12 => K .normal ⟨[(0, .c (.pbox 0 0)), (2, .c (.pbox 2 0)), (3, .c (.pbox 3 0)), (4, .c (.int .i64 y0)), (5, .c (.int .i64 y1)), (6, .c (.pbox 6 0))], [(1856, ⟨34, .prod .str (.int .i64), y2, 99, none⟩), (1857, ⟨52, .prod (.int .i64) (.sl 61 Y3), y3, 99, none⟩), (1000064, ⟨34, .prod .str (.int .i64), y4, 99, none⟩), (1000065, ⟨52, .prod (.int .i64) (.sl 61 Y3), y5, 99, none⟩), (1000096, ⟨34, .prod .str (.int .i64), y6, 0, none⟩), (1000097, ⟨52, .prod (.int .i64) (.sl 61 Y3), y7, 99, none⟩)], [(0, ⟨63, [.dat 5 (.int .u8) y8, .int .i64 y9], false, false⟩), (2, ⟨27, [.own 1000064, .own 1000065, .int .i64 y10], false, false⟩), (3, ⟨27, [.own 1000096, .own 1000097, .int .i64 y11], false, false⟩), (6, ⟨27, [.own 1856, .own 1857, .int .i64 y12], false, false⟩)], [], [0]⟩) (fun y0 y1 y2 y3 y4 y5 y6 y7 y8 y9 y10 y11 y12 => K .normal ⟨[(0, .c (.pbox 0 0)), (2, .c (.pbox 2 0)), (3, .c (.pbox 3 0)), (4, .c (.int .i64 y0)), (5, .c (.int .i64 y1)), (6, .c (.pbox 6 0))], [(2080, ⟨34, .prod .str (.int .i64), y2, 99, none⟩), (2081, ⟨52, .prod (.int .i64) (.sl 61 Y3), y3, 99, none⟩), (1000064, ⟨34, .prod .str (.int .i64), y4, 99, none⟩), (1000065, ⟨52, .prod (.int .i64) (.sl 61 Y3), y5, 99, none⟩), (1000096, ⟨34, .prod .str (.int .i64), y6, 0, none⟩), (1000097, ⟨52, .prod (.int .i64) (.sl 61 Y3), y7, 99, none⟩)], [(0, ⟨63, [.dat 5 (.int .u8) y8, .int .i64 y9], false, false⟩), (2, ⟨27, [.own 1000064, .own 1000065, .int .i64 y10], false, false⟩), (3, ⟨27, [.own 1000096, .own 1000097, .int .i64 y11], false, false⟩), (6, ⟨27, [.own 2080, .own 2081, .int .i64 y12], false, false⟩)], [], [0]⟩) (fun y0 y1 y2 y3 y4 y5 y6 y7 y8 y9 y10 y11 y12 => K .normal ⟨[(0, .c (.pbox 0 0)), (2, .c (.pbox 2 0)), (3, .c (.pbox 3 0)), (4, .c (.int .i64 y0)), (5, .c (.int .i64 y1)), (6, .c (.pbox 6 0))], [(2368, ⟨34, .prod .str (.int .i64), y2, 99, none⟩), (2369, ⟨52, .prod (.int .i64) (.sl 61 Y3), y3, 99, none⟩), (1000064, ⟨34, .prod .str (.int .i64), y4, 99, none⟩), (1000065, ⟨52, .prod (.int .i64) (.sl 61 Y3), y5, 99, none⟩), (1000096, ⟨34, .prod .str (.int .i64), y6, 0, none⟩), (1000097, ⟨52, .prod (.int .i64) (.sl 61 Y3), y7, 99, none⟩)], [(0, ⟨63, [.dat 5 (.int .u8) y8, .int .i64 y9], false, false⟩), (2, ⟨27, [.own 1000064, .own 1000065, .int .i64 y10], false, false⟩), (3, ⟨27, [.own 1000096, .own 1000097, .int .i64 y11], false, false⟩), (6, ⟨27, [.own 2368, .own 2369, .int .i64 y12], false, false⟩)], [], [0]⟩) (fun y0 y1 y2 y3 y4 y5 y6 y7 y8 y9 y10 => K .normal ⟨[(0, .c (.pbox 0 0)), (2, .c (.pbox 2 0)), (3, .c (.pbox 3 0)), (4, .c (.int .i64 y0)), (5, .c (.int .i64 y1)), (6, .c (.pbox 6 0))], [(1000064, ⟨34, .prod .str (.int .i64), y2, 99, none⟩), (1000065, ⟨52, .prod (.int .i64) (.sl 61 Y3), y3, 99, none⟩), (1000096, ⟨34, .prod .str (.int .i64), y4, 0, none⟩), (1000097, ⟨52, .prod (.int .i64) (.sl 61 Y3), y5, 99, none⟩)], [(0, ⟨63, [.dat 5 (.int .u8) y6, .int .i64 y7], false, false⟩), (2, ⟨27, [.own 1000064, .own 1000065, .int .i64 y8], false, false⟩), (3, ⟨27, [.own 1000096, .own 1000097, .int .i64 y9], false, false⟩), (6, ⟨27, [.own 1000096, .own 1000097, .int .i64 y10], false, false⟩)], [], [0]⟩) (fun y0 y1 y2 y3 y4 y5 y6 y7 y8 y9 y10 y11 y12 => K .normal ⟨[(0, .c (.pbox 0 0)), (2, .c (.pbox 2 0)), (3, .c (.pbox 3 0)), (4, .c (.int .i64 y0)), (5, .c (.int .i64 y1)), (6, .c (.pbox 6 0))], [(1280, ⟨34, .prod .str (.int .i64), y2, 99, none⟩), (1281, ⟨52, .prod (.int .i64) (.sl 61 Y3), y3, 99, none⟩), (1000064, ⟨34, .prod .str (.int .i64), y4, 99, none⟩), (1000065, ⟨52, .prod (.int .i64) (.sl 61 Y3), y5, 99, none⟩), (1000096, ⟨34, .prod .str (.int .i64), y6, 0, none⟩), (1000097, ⟨52, .prod (.int .i64) (.sl 61 Y3), y7, 99, none⟩)], [(0, ⟨63, [.dat 5 (.int .u8) y8, .int .i64 y9], false, false⟩), (2, ⟨27, [.own 1000064, .own 1000065, .int .i64 y10], false, false⟩), (3, ⟨27, [.own 1000096, .own 1000097, .int .i64 y11], false, false⟩), (6, ⟨27, [.own 1280, .own 1281, .int .i64 y12], false, false⟩)], [], [0]⟩)
abbrev Z68.q19.s : ST := ⟨[(0, .c (.o (.pbox 0 0))), (2, .c (.o (.pbox 2 0))), (3, .c (.o (.pbox 3 0))), (4, .c (.o (.int .i64))), (5, .c (.o (.int .i64))), (6, .c (.o (.pbox 6 0)))], [⟨1856, 34, .prod .str (.int .i64), 99⟩, ⟨1857, 52, .prod (.int .i64) (.sl 61 Y3), 99⟩, ⟨1000064, 34, .prod .str (.int .i64), 99⟩, ⟨1000065, 52, .prod (.int .i64) (.sl 61 Y3), 99⟩, ⟨1000096, 34, .prod .str (.int .i64), 0⟩, ⟨1000097, 52, .prod (.int .i64) (.sl 61 Y3), 99⟩], [⟨0, 63, [.o (.dat 5 (.int .u8)), .o (.int .i64)], false, false⟩, ⟨2, 27, [.o (.own 1000064), .o (.own 1000065), .o (.int .i64)], false, false⟩, ⟨3, 27, [.o (.own 1000096), .o (.own 1000097), .o (.int .i64)], false, false⟩, ⟨6, 27, [.o (.own 1856), .o (.own 1857), .o (.int .i64)], false, false⟩], [], [0]⟩
def Z68.q19.u (n : Nat) (v : Z68.q19.s.V) (K : X -> St -> Prop) : Prop := Z68.q19 n v.1.2.2.2.1 v.1.2.2.2.2.1 v.2.1.1 v.2.1.2.1 v.2.1.2.2.1 v.2.1.2.2.2.1 v.2.1.2.2.2.2.1 v.2.1.2.2.2.2.2.1 v.2.2.1.1 v.2.2.1.2.1 v.2.2.2.1.2.2.1 v.2.2.2.2.1.2.2.1 v.2.2.2.2.2.1.2.2.1 (fun y0 y1 y2 y3 y4 y5 y6 y7 y8 => K .normal ⟨[(0, .c (.pbox 0 0)), (2, .c (.pbox 2 0)), (3, .c (.pbox 3 0)), (4, .c (.int .i64 y0))], [(1856, ⟨34, .prod .str (.int .i64), y1, 99, none⟩), (1857, ⟨52, .prod (.int .i64) (.sl 61 Y3), y2, 99, none⟩), (1000064, ⟨34, .prod .str (.int .i64), y3, 99, none⟩), (1000065, ⟨52, .prod (.int .i64) (.sl 61 Y3), y4, 99, none⟩)], [(0, ⟨63, [.dat 5 (.int .u8) y5, .int .i64 y6], false, false⟩), (2, ⟨27, [.own 1000064, .own 1000065, .int .i64 y7], false, false⟩), (3, ⟨27, [.own 1856, .own 1857, .int .i64 y8], false, false⟩)], [], [0]⟩) (fun y0 y1 y2 y3 y4 y5 y6 y7 y8 => K .normal ⟨[(0, .c (.pbox 0 0)), (2, .c (.pbox 2 0)), (3, .c (.pbox 3 0)), (4, .c (.int .i64 y0))], [(1000064, ⟨34, .prod .str (.int .i64), y1, 99, none⟩), (1000065, ⟨52, .prod (.int .i64) (.sl 61 Y3), y2, 99, none⟩), (1000096, ⟨34, .prod .str (.int .i64), y3, 0, none⟩), (1000097, ⟨52, .prod (.int .i64) (.sl 61 Y3), y4, 99, none⟩)], [(0, ⟨63, [.dat 5 (.int .u8) y5, .int .i64 y6], false, false⟩), (2, ⟨27, [.own 1000064, .own 1000065, .int .i64 y7], false, false⟩), (3, ⟨27, [.own 1000096, .own 1000097, .int .i64 y8], false, false⟩)], [], [0]⟩)
abbrev Z68.q4.s : ST := ⟨[(0, .c (.o (.pbox 0 0))), (2, .c (.o (.pbox 2 0))), (3, .c (.o (.pbox 3 0))), (4, .c (.o (.int .i64)))], [⟨1856, 34, .prod .str (.int .i64), 99⟩, ⟨1857, 52, .prod (.int .i64) (.sl 61 Y3), 99⟩, ⟨1000064, 34, .prod .str (.int .i64), 99⟩, ⟨1000065, 52, .prod (.int .i64) (.sl 61 Y3), 99⟩], [⟨0, 63, [.o (.dat 5 (.int .u8)), .o (.int .i64)], false, false⟩, ⟨2, 27, [.o (.own 1000064), .o (.own 1000065), .o (.int .i64)], false, false⟩, ⟨3, 27, [.o (.own 1856), .o (.own 1857), .o (.int .i64)], false, false⟩], [], [0]⟩
def Z68.q4.u (n : Nat) (v : Z68.q4.s.V) (K : X -> St -> Prop) : Prop := Z68.q4 n v.1.2.2.2.1 v.2.1.1 v.2.1.2.1 v.2.1.2.2.1 v.2.1.2.2.2.1 v.2.2.1.1 v.2.2.1.2.1 v.2.2.2.1.2.2.1 v.2.2.2.2.1.2.2.1 (fun y0 y1 y2 y3 y4 y5 y6 y7 y8 => K .normal ⟨[(0, .c (.pbox 0 0)), (2, .c (.pbox 2 0)), (3, .c (.pbox 3 0)), (4, .c (.int .i64 y0))], [(1856, ⟨34, .prod .str (.int .i64), y1, 99, none⟩), (1857, ⟨52, .prod (.int .i64) (.sl 61 Y3), y2, 99, none⟩), (1000064, ⟨34, .prod .str (.int .i64), y3, 99, none⟩), (1000065, ⟨52, .prod (.int .i64) (.sl 61 Y3), y4, 99, none⟩)], [(0, ⟨63, [.dat 5 (.int .u8) y5, .int .i64 y6], false, false⟩), (2, ⟨27, [.own 1000064, .own 1000065, .int .i64 y7], false, false⟩), (3, ⟨27, [.own 1856, .own 1857, .int .i64 y8], false, false⟩)], [], [0]⟩)
abbrev Z68.q4_1.s : ST := ⟨[(0, .c (.o (.pbox 0 0))), (2, .c (.o (.pbox 2 0))), (3, .c (.o (.pbox 3 0))), (4, .c (.o (.int .i64)))], [⟨1000064, 34, .prod .str (.int .i64), 99⟩, ⟨1000065, 52, .prod (.int .i64) (.sl 61 Y3), 99⟩, ⟨1000096, 34, .prod .str (.int .i64), 0⟩, ⟨1000097, 52, .prod (.int .i64) (.sl 61 Y3), 99⟩], [⟨0, 63, [.o (.dat 5 (.int .u8)), .o (.int .i64)], false, false⟩, ⟨2, 27, [.o (.own 1000064), .o (.own 1000065), .o (.int .i64)], false, false⟩, ⟨3, 27, [.o (.own 1000096), .o (.own 1000097), .o (.int .i64)], false, false⟩], [], [0]⟩
def Z68.q4_1.u (n : Nat) (v : Z68.q4_1.s.V) (K : X -> St -> Prop) : Prop := Z68.q4_1 n v.1.2.2.2.1 v.2.1.1 v.2.1.2.1 v.2.1.2.2.1 v.2.1.2.2.2.1 v.2.2.1.1 v.2.2.1.2.1 v.2.2.2.1.2.2.1 v.2.2.2.2.1.2.2.1 (fun y0 y1 y2 y3 y4 y5 y6 y7 y8 => K .normal ⟨[(0, .c (.pbox 0 0)), (2, .c (.pbox 2 0)), (3, .c (.pbox 3 0)), (4, .c (.int .i64 y0))], [(1000064, ⟨34, .prod .str (.int .i64), y1, 99, none⟩), (1000065, ⟨52, .prod (.int .i64) (.sl 61 Y3), y2, 99, none⟩), (1000096, ⟨34, .prod .str (.int .i64), y3, 0, none⟩), (1000097, ⟨52, .prod (.int .i64) (.sl 61 Y3), y4, 99, none⟩)], [(0, ⟨63, [.dat 5 (.int .u8) y5, .int .i64 y6], false, false⟩), (2, ⟨27, [.own 1000064, .own 1000065, .int .i64 y7], false, false⟩), (3, ⟨27, [.own 1000096, .own 1000097, .int .i64 y8], false, false⟩)], [], [0]⟩)
abbrev Z68.q19_1.s : ST := ⟨[(0, .c (.o (.pbox 0 0))), (2, .c (.o (.pbox 2 0))), (3, .c (.o (.pbox 3 0))), (4, .c (.o (.int .i64))), (5, .c (.o (.int .i64))), (6, .c (.o (.pbox 6 0)))], [⟨2080, 34, .prod .str (.int .i64), 99⟩, ⟨2081, 52, .prod (.int .i64) (.sl 61 Y3), 99⟩, ⟨1000064, 34, .prod .str (.int .i64), 99⟩, ⟨1000065, 52, .prod (.int .i64) (.sl 61 Y3), 99⟩, ⟨1000096, 34, .prod .str (.int .i64), 0⟩, ⟨1000097, 52, .prod (.int .i64) (.sl 61 Y3), 99⟩], [⟨0, 63, [.o (.dat 5 (.int .u8)), .o (.int .i64)], false, false⟩, ⟨2, 27, [.o (.own 1000064), .o (.own 1000065), .o (.int .i64)], false, false⟩, ⟨3, 27, [.o (.own 1000096), .o (.own 1000097), .o (.int .i64)], false, false⟩, ⟨6, 27, [.o (.own 2080), .o (.own 2081), .o (.int .i64)], false, false⟩], [], [0]⟩
def Z68.q19_1.u (n : Nat) (v : Z68.q19_1.s.V) (K : X -> St -> Prop) : Prop := Z68.q19_1 n v.1.2.2.2.1 v.1.2.2.2.2.1 v.2.1.1 v.2.1.2.1 v.2.1.2.2.1 v.2.1.2.2.2.1 v.2.1.2.2.2.2.1 v.2.1.2.2.2.2.2.1 v.2.2.1.1 v.2.2.1.2.1 v.2.2.2.1.2.2.1 v.2.2.2.2.1.2.2.1 v.2.2.2.2.2.1.2.2.1 (fun y0 y1 y2 y3 y4 y5 y6 y7 y8 => K .normal ⟨[(0, .c (.pbox 0 0)), (2, .c (.pbox 2 0)), (3, .c (.pbox 3 0)), (4, .c (.int .i64 y0))], [(2080, ⟨34, .prod .str (.int .i64), y1, 99, none⟩), (2081, ⟨52, .prod (.int .i64) (.sl 61 Y3), y2, 99, none⟩), (1000064, ⟨34, .prod .str (.int .i64), y3, 99, none⟩), (1000065, ⟨52, .prod (.int .i64) (.sl 61 Y3), y4, 99, none⟩)], [(0, ⟨63, [.dat 5 (.int .u8) y5, .int .i64 y6], false, false⟩), (2, ⟨27, [.own 1000064, .own 1000065, .int .i64 y7], false, false⟩), (3, ⟨27, [.own 2080, .own 2081, .int .i64 y8], false, false⟩)], [], [0]⟩) (fun y0 y1 y2 y3 y4 y5 y6 y7 y8 => K .normal ⟨[(0, .c (.pbox 0 0)), (2, .c (.pbox 2 0)), (3, .c (.pbox 3 0)), (4, .c (.int .i64 y0))], [(1000064, ⟨34, .prod .str (.int .i64), y1, 99, none⟩), (1000065, ⟨52, .prod (.int .i64) (.sl 61 Y3), y2, 99, none⟩), (1000096, ⟨34, .prod .str (.int .i64), y3, 0, none⟩), (1000097, ⟨52, .prod (.int .i64) (.sl 61 Y3), y4, 99, none⟩)], [(0, ⟨63, [.dat 5 (.int .u8) y5, .int .i64 y6], false, false⟩), (2, ⟨27, [.own 1000064, .own 1000065, .int .i64 y7], false, false⟩), (3, ⟨27, [.own 1000096, .own 1000097, .int .i64 y8], false, false⟩)], [], [0]⟩)
abbrev Z68.q4_2.s : ST := ⟨[(0, .c (.o (.pbox 0 0))), (2, .c (.o (.pbox 2 0))), (3, .c (.o (.pbox 3 0))), (4, .c (.o (.int .i64)))], [⟨2080, 34, .prod .str (.int .i64), 99⟩, ⟨2081, 52, .prod (.int .i64) (.sl 61 Y3), 99⟩, ⟨1000064, 34, .prod .str (.int .i64), 99⟩, ⟨1000065, 52, .prod (.int .i64) (.sl 61 Y3), 99⟩], [⟨0, 63, [.o (.dat 5 (.int .u8)), .o (.int .i64)], false, false⟩, ⟨2, 27, [.o (.own 1000064), .o (.own 1000065), .o (.int .i64)], false, false⟩, ⟨3, 27, [.o (.own 2080), .o (.own 2081), .o (.int .i64)], false, false⟩], [], [0]⟩
def Z68.q4_2.u (n : Nat) (v : Z68.q4_2.s.V) (K : X -> St -> Prop) : Prop := Z68.q4_2 n v.1.2.2.2.1 v.2.1.1 v.2.1.2.1 v.2.1.2.2.1 v.2.1.2.2.2.1 v.2.2.1.1 v.2.2.1.2.1 v.2.2.2.1.2.2.1 v.2.2.2.2.1.2.2.1 (fun y0 y1 y2 y3 y4 y5 y6 y7 y8 => K .normal ⟨[(0, .c (.pbox 0 0)), (2, .c (.pbox 2 0)), (3, .c (.pbox 3 0)), (4, .c (.int .i64 y0))], [(2080, ⟨34, .prod .str (.int .i64), y1, 99, none⟩), (2081, ⟨52, .prod (.int .i64) (.sl 61 Y3), y2, 99, none⟩), (1000064, ⟨34, .prod .str (.int .i64), y3, 99, none⟩), (1000065, ⟨52, .prod (.int .i64) (.sl 61 Y3), y4, 99, none⟩)], [(0, ⟨63, [.dat 5 (.int .u8) y5, .int .i64 y6], false, false⟩), (2, ⟨27, [.own 1000064, .own 1000065, .int .i64 y7], false, false⟩), (3, ⟨27, [.own 2080, .own 2081, .int .i64 y8], false, false⟩)], [], [0]⟩)
abbrev Z68.q19_2.s : ST := ⟨[(0, .c (.o (.pbox 0 0))), (2, .c (.o (.pbox 2 0))), (3, .c (.o (.pbox 3 0))), (4, .c (.o (.int .i64))), (5, .c (.o (.int .i64))), (6, .c (.o (.pbox 6 0)))], [⟨2368, 34, .prod .str (.int .i64), 99⟩, ⟨2369, 52, .prod (.int .i64) (.sl 61 Y3), 99⟩, ⟨1000064, 34, .prod .str (.int .i64), 99⟩, ⟨1000065, 52, .prod (.int .i64) (.sl 61 Y3), 99⟩, ⟨1000096, 34, .prod .str (.int .i64), 0⟩, ⟨1000097, 52, .prod (.int .i64) (.sl 61 Y3), 99⟩], [⟨0, 63, [.o (.dat 5 (.int .u8)), .o (.int .i64)], false, false⟩, ⟨2, 27, [.o (.own 1000064), .o (.own 1000065), .o (.int .i64)], false, false⟩, ⟨3, 27, [.o (.own 1000096), .o (.own 1000097), .o (.int .i64)], false, false⟩, ⟨6, 27, [.o (.own 2368), .o (.own 2369), .o (.int .i64)], false, false⟩], [], [0]⟩
def Z68.q19_2.u (n : Nat) (v : Z68.q19_2.s.V) (K : X -> St -> Prop) : Prop := Z68.q19_2 n v.1.2.2.2.1 v.1.2.2.2.2.1 v.2.1.1 v.2.1.2.1 v.2.1.2.2.1 v.2.1.2.2.2.1 v.2.1.2.2.2.2.1 v.2.1.2.2.2.2.2.1 v.2.2.1.1 v.2.2.1.2.1 v.2.2.2.1.2.2.1 v.2.2.2.2.1.2.2.1 v.2.2.2.2.2.1.2.2.1 (fun y0 y1 y2 y3 y4 y5 y6 y7 y8 => K .normal ⟨[(0, .c (.pbox 0 0)), (2, .c (.pbox 2 0)), (3, .c (.pbox 3 0)), (4, .c (.int .i64 y0))], [(2368, ⟨34, .prod .str (.int .i64), y1, 99, none⟩), (2369, ⟨52, .prod (.int .i64) (.sl 61 Y3), y2, 99, none⟩), (1000064, ⟨34, .prod .str (.int .i64), y3, 99, none⟩), (1000065, ⟨52, .prod (.int .i64) (.sl 61 Y3), y4, 99, none⟩)], [(0, ⟨63, [.dat 5 (.int .u8) y5, .int .i64 y6], false, false⟩), (2, ⟨27, [.own 1000064, .own 1000065, .int .i64 y7], false, false⟩), (3, ⟨27, [.own 2368, .own 2369, .int .i64 y8], false, false⟩)], [], [0]⟩) (fun y0 y1 y2 y3 y4 y5 y6 y7 y8 => K .normal ⟨[(0, .c (.pbox 0 0)), (2, .c (.pbox 2 0)), (3, .c (.pbox 3 0)), (4, .c (.int .i64 y0))], [(1000064, ⟨34, .prod .str (.int .i64), y1, 99, none⟩), (1000065, ⟨52, .prod (.int .i64) (.sl 61 Y3), y2, 99, none⟩), (1000096, ⟨34, .prod .str (.int .i64), y3, 0, none⟩), (1000097, ⟨52, .prod (.int .i64) (.sl 61 Y3), y4, 99, none⟩)], [(0, ⟨63, [.dat 5 (.int .u8) y5, .int .i64 y6], false, false⟩), (2, ⟨27, [.own 1000064, .own 1000065, .int .i64 y7], false, false⟩), (3, ⟨27, [.own 1000096, .own 1000097, .int .i64 y8], false, false⟩)], [], [0]⟩)
abbrev Z68.q4_3.s : ST := ⟨[(0, .c (.o (.pbox 0 0))), (2, .c (.o (.pbox 2 0))), (3, .c (.o (.pbox 3 0))), (4, .c (.o (.int .i64)))], [⟨2368, 34, .prod .str (.int .i64), 99⟩, ⟨2369, 52, .prod (.int .i64) (.sl 61 Y3), 99⟩, ⟨1000064, 34, .prod .str (.int .i64), 99⟩, ⟨1000065, 52, .prod (.int .i64) (.sl 61 Y3), 99⟩], [⟨0, 63, [.o (.dat 5 (.int .u8)), .o (.int .i64)], false, false⟩, ⟨2, 27, [.o (.own 1000064), .o (.own 1000065), .o (.int .i64)], false, false⟩, ⟨3, 27, [.o (.own 2368), .o (.own 2369), .o (.int .i64)], false, false⟩], [], [0]⟩
def Z68.q4_3.u (n : Nat) (v : Z68.q4_3.s.V) (K : X -> St -> Prop) : Prop := Z68.q4_3 n v.1.2.2.2.1 v.2.1.1 v.2.1.2.1 v.2.1.2.2.1 v.2.1.2.2.2.1 v.2.2.1.1 v.2.2.1.2.1 v.2.2.2.1.2.2.1 v.2.2.2.2.1.2.2.1 (fun y0 y1 y2 y3 y4 y5 y6 y7 y8 => K .normal ⟨[(0, .c (.pbox 0 0)), (2, .c (.pbox 2 0)), (3, .c (.pbox 3 0)), (4, .c (.int .i64 y0))], [(2368, ⟨34, .prod .str (.int .i64), y1, 99, none⟩), (2369, ⟨52, .prod (.int .i64) (.sl 61 Y3), y2, 99, none⟩), (1000064, ⟨34, .prod .str (.int .i64), y3, 99, none⟩), (1000065, ⟨52, .prod (.int .i64) (.sl 61 Y3), y4, 99, none⟩)], [(0, ⟨63, [.dat 5 (.int .u8) y5, .int .i64 y6], false, false⟩), (2, ⟨27, [.own 1000064, .own 1000065, .int .i64 y7], false, false⟩), (3, ⟨27, [.own 2368, .own 2369, .int .i64 y8], false, false⟩)], [], [0]⟩)
abbrev Z68.q19_3.s : ST := ⟨[(0, .c (.o (.pbox 0 0))), (2, .c (.o (.pbox 2 0))), (3, .c (.o (.pbox 3 0))), (4, .c (.o (.int .i64))), (5, .c (.o (.int .i64))), (6, .c (.o (.pbox 6 0)))], [⟨1000064, 34, .prod .str (.int .i64), 99⟩, ⟨1000065, 52, .prod (.int .i64) (.sl 61 Y3), 99⟩, ⟨1000096, 34, .prod .str (.int .i64), 0⟩, ⟨1000097, 52, .prod (.int .i64) (.sl 61 Y3), 99⟩], [⟨0, 63, [.o (.dat 5 (.int .u8)), .o (.int .i64)], false, false⟩, ⟨2, 27, [.o (.own 1000064), .o (.own 1000065), .o (.int .i64)], false, false⟩, ⟨3, 27, [.o (.own 1000096), .o (.own 1000097), .o (.int .i64)], false, false⟩, ⟨6, 27, [.o (.own 1000096), .o (.own 1000097), .o (.int .i64)], false, false⟩], [], [0]⟩
def Z68.q19_3.u (n : Nat) (v : Z68.q19_3.s.V) (K : X -> St -> Prop) : Prop := Z68.q19_3 n v.1.2.2.2.1 v.1.2.2.2.2.1 v.2.1.1 v.2.1.2.1 v.2.1.2.2.1 v.2.1.2.2.2.1 v.2.2.1.1 v.2.2.1.2.1 v.2.2.2.1.2.2.1 v.2.2.2.2.1.2.2.1 v.2.2.2.2.2.1.2.2.1 (fun y0 y1 y2 y3 y4 y5 y6 y7 y8 => K .normal ⟨[(0, .c (.pbox 0 0)), (2, .c (.pbox 2 0)), (3, .c (.pbox 3 0)), (4, .c (.int .i64 y0))], [(1000064, ⟨34, .prod .str (.int .i64), y1, 99, none⟩), (1000065, ⟨52, .prod (.int .i64) (.sl 61 Y3), y2, 99, none⟩), (1000096, ⟨34, .prod .str (.int .i64), y3, 0, none⟩), (1000097, ⟨52, .prod (.int .i64) (.sl 61 Y3), y4, 99, none⟩)], [(0, ⟨63, [.dat 5 (.int .u8) y5, .int .i64 y6], false, false⟩), (2, ⟨27, [.own 1000064, .own 1000065, .int .i64 y7], false, false⟩), (3, ⟨27, [.own 1000096, .own 1000097, .int .i64 y8], false, false⟩)], [], [0]⟩)
abbrev Z68.q19_4.s : ST := ⟨[(0, .c (.o (.pbox 0 0))), (2, .c (.o (.pbox 2 0))), (3, .c (.o (.pbox 3 0))), (4, .c (.o (.int .i64))), (5, .c (.o (.int .i64))), (6, .c (.o (.pbox 6 0)))], [⟨1280, 34, .prod .str (.int .i64), 99⟩, ⟨1281, 52, .prod (.int .i64) (.sl 61 Y3), 99⟩, ⟨1000064, 34, .prod .str (.int .i64), 99⟩, ⟨1000065, 52, .prod (.int .i64) (.sl 61 Y3), 99⟩, ⟨1000096, 34, .prod .str (.int .i64), 0⟩, ⟨1000097, 52, .prod (.int .i64) (.sl 61 Y3), 99⟩], [⟨0, 63, [.o (.dat 5 (.int .u8)), .o (.int .i64)], false, false⟩, ⟨2, 27, [.o (.own 1000064), .o (.own 1000065), .o (.int .i64)], false, false⟩, ⟨3, 27, [.o (.own 1000096), .o (.own 1000097), .o (.int .i64)], false, false⟩, ⟨6, 27, [.o (.own 1280), .o (.own 1281), .o (.int .i64)], false, false⟩], [], [0]⟩
def Z68.q19_4.u (n : Nat) (v : Z68.q19_4.s.V) (K : X -> St -> Prop) : Prop := Z68.q19_4 n v.1.2.2.2.1 v.1.2.2.2.2.1 v.2.1.1 v.2.1.2.1 v.2.1.2.2.1 v.2.1.2.2.2.1 v.2.1.2.2.2.2.1 v.2.1.2.2.2.2.2.1 v.2.2.1.1 v.2.2.1.2.1 v.2.2.2.1.2.2.1 v.2.2.2.2.1.2.2.1 v.2.2.2.2.2.1.2.2.1 (fun y0 y1 y2 y3 y4 y5 y6 y7 y8 => K .normal ⟨[(0, .c (.pbox 0 0)), (2, .c (.pbox 2 0)), (3, .c (.pbox 3 0)), (4, .c (.int .i64 y0))], [(1280, ⟨34, .prod .str (.int .i64), y1, 99, none⟩), (1281, ⟨52, .prod (.int .i64) (.sl 61 Y3), y2, 99, none⟩), (1000064, ⟨34, .prod .str (.int .i64), y3, 99, none⟩), (1000065, ⟨52, .prod (.int .i64) (.sl 61 Y3), y4, 99, none⟩)], [(0, ⟨63, [.dat 5 (.int .u8) y5, .int .i64 y6], false, false⟩), (2, ⟨27, [.own 1000064, .own 1000065, .int .i64 y7], false, false⟩), (3, ⟨27, [.own 1280, .own 1281, .int .i64 y8], false, false⟩)], [], [0]⟩) (fun y0 y1 y2 y3 y4 y5 y6 y7 y8 => K .normal ⟨[(0, .c (.pbox 0 0)), (2, .c (.pbox 2 0)), (3, .c (.pbox 3 0)), (4, .c (.int .i64 y0))], [(1000064, ⟨34, .prod .str (.int .i64), y1, 99, none⟩), (1000065, ⟨52, .prod (.int .i64) (.sl 61 Y3), y2, 99, none⟩), (1000096, ⟨34, .prod .str (.int .i64), y3, 0, none⟩), (1000097, ⟨52, .prod (.int .i64) (.sl 61 Y3), y4, 99, none⟩)], [(0, ⟨63, [.dat 5 (.int .u8) y5, .int .i64 y6], false, false⟩), (2, ⟨27, [.own 1000064, .own 1000065, .int .i64 y7], false, false⟩), (3, ⟨27, [.own 1000096, .own 1000097, .int .i64 y8], false, false⟩)], [], [0]⟩)
abbrev Z68.q4_4.s : ST := ⟨[(0, .c (.o (.pbox 0 0))), (2, .c (.o (.pbox 2 0))), (3, .c (.o (.pbox 3 0))), (4, .c (.o (.int .i64)))], [⟨1280, 34, .prod .str (.int .i64), 99⟩, ⟨1281, 52, .prod (.int .i64) (.sl 61 Y3), 99⟩, ⟨1000064, 34, .prod .str (.int .i64), 99⟩, ⟨1000065, 52, .prod (.int .i64) (.sl 61 Y3), 99⟩], [⟨0, 63, [.o (.dat 5 (.int .u8)), .o (.int .i64)], false, false⟩, ⟨2, 27, [.o (.own 1000064), .o (.own 1000065), .o (.int .i64)], false, false⟩, ⟨3, 27, [.o (.own 1280), .o (.own 1281), .o (.int .i64)], false, false⟩], [], [0]⟩
def Z68.q4_4.u (n : Nat) (v : Z68.q4_4.s.V) (K : X -> St -> Prop) : Prop := Z68.q4_4 n v.1.2.2.2.1 v.2.1.1 v.2.1.2.1 v.2.1.2.2.1 v.2.1.2.2.2.1 v.2.2.1.1 v.2.2.1.2.1 v.2.2.2.1.2.2.1 v.2.2.2.2.1.2.2.1 (fun y0 y1 y2 y3 y4 y5 y6 y7 y8 => K .normal ⟨[(0, .c (.pbox 0 0)), (2, .c (.pbox 2 0)), (3, .c (.pbox 3 0)), (4, .c (.int .i64 y0))], [(1280, ⟨34, .prod .str (.int .i64), y1, 99, none⟩), (1281, ⟨52, .prod (.int .i64) (.sl 61 Y3), y2, 99, none⟩), (1000064, ⟨34, .prod .str (.int .i64), y3, 99, none⟩), (1000065, ⟨52, .prod (.int .i64) (.sl 61 Y3), y4, 99, none⟩)], [(0, ⟨63, [.dat 5 (.int .u8) y5, .int .i64 y6], false, false⟩), (2, ⟨27, [.own 1000064, .own 1000065, .int .i64 y7], false, false⟩), (3, ⟨27, [.own 1280, .own 1281, .int .i64 y8], false, false⟩)], [], [0]⟩)
abbrev Z68.l3.s : ST := ⟨[(0, .c (.o (.pbox 0 0))), (2, .c (.o (.pbox 2 0))), (3, .c (.o (.pbox 3 0))), (4, .c (.o (.int .i64)))], [⟨1000064, 34, .prod .str (.int .i64), 99⟩, ⟨1000065, 52, .prod (.int .i64) (.sl 61 Y3), 99⟩, ⟨1000096, 34, .prod .str (.int .i64), 0⟩, ⟨1000097, 52, .prod (.int .i64) (.sl 61 Y3), 99⟩], [⟨0, 63, [.o (.dat 5 (.int .u8)), .o (.int .i64)], false, false⟩, ⟨2, 27, [.o (.own 1000064), .o (.own 1000065), .o (.int .i64)], false, false⟩, ⟨3, 27, [.o (.own 1000096), .o (.own 1000097), .o (.int .i64)], false, false⟩], [], [0]⟩
def Z68.l3.u (n : Nat) (v : Z68.l3.s.V) (K : X -> St -> Prop) : Prop := Z68.l3 n v.1.2.2.2.1 v.2.1.1 v.2.1.2.1 v.2.1.2.2.1 v.2.1.2.2.2.1 v.2.2.1.1 v.2.2.1.2.1 v.2.2.2.1.2.2.1 v.2.2.2.2.1.2.2.1 (fun y0 y1 y2 y3 y4 y5 y6 y7 => K (.exit 0) ⟨[(0, .c (.pbox 0 0)), (2, .c (.pbox 2 0)), (3, .c (.pbox 3 0))], [(1000064, ⟨34, .prod .str (.int .i64), y0, 99, none⟩), (1000065, ⟨52, .prod (.int .i64) (.sl 61 Y3), y1, 99, none⟩), (1000096, ⟨34, .prod .str (.int .i64), y2, 0, none⟩), (1000097, ⟨52, .prod (.int .i64) (.sl 61 Y3), y3, 99, none⟩)], [(0, ⟨63, [.dat 5 (.int .u8) y4, .int .i64 y5], false, false⟩), (2, ⟨27, [.own 1000064, .own 1000065, .int .i64 y6], false, false⟩), (3, ⟨27, [.own 1000096, .own 1000097, .int .i64 y7], false, false⟩)], [], [0]⟩)
abbrev Z68.l34.s : ST := ⟨[(0, .c (.o (.pbox 0 0))), (2, .c (.o (.pbox 2 0))), (3, .c (.o (.pbox 3 0)))], [⟨1000064, 34, .prod .str (.int .i64), 99⟩, ⟨1000065, 52, .prod (.int .i64) (.sl 61 Y3), 99⟩, ⟨1000096, 34, .prod .str (.int .i64), 0⟩, ⟨1000097, 52, .prod (.int .i64) (.sl 61 Y3), 99⟩], [⟨0, 63, [.o (.dat 5 (.int .u8)), .o (.int .i64)], false, false⟩, ⟨2, 27, [.o (.own 1000064), .o (.own 1000065), .o (.int .i64)], false, false⟩, ⟨3, 27, [.o (.own 1000096), .o (.own 1000097), .o (.int .i64)], false, false⟩], [], [0]⟩
def Z68.l34.u (n : Nat) (v : Z68.l34.s.V) (K : X -> St -> Prop) : Prop := Z68.l34 n v.2.1.1 v.2.1.2.1 v.2.1.2.2.1 v.2.2.2.1.2.2.1 v.2.2.2.2.1.2.2.1 v.2.1.2.2.2.1 v.2.2.1.1 v.2.2.1.2.1 (fun y0 y1 y2 y3 y4 y5 y6 y7 => K (.exit 4) ⟨[(2, .c (.pbox 2 0)), (3, .c (.pbox 3 0))], [(1000064, ⟨34, .prod .str (.int .i64), y0, 99, none⟩), (1000065, ⟨52, .prod (.int .i64) (.sl 61 Y3), y1, 99, none⟩), (1000096, ⟨34, .prod .str (.int .i64), y2, 0, none⟩), (1000097, ⟨52, .prod (.int .i64) (.sl 61 Y3), y3, 99, none⟩)], [(0, ⟨63, [.dat 5 (.int .u8) y4, .int .i64 y5], false, false⟩), (2, ⟨27, [.own 1000064, .own 1000065, .int .i64 y6], false, false⟩), (3, ⟨27, [.own 1000096, .own 1000097, .int .i64 y7], false, false⟩)], [], [0]⟩)
theorem Z68.q13_ok : LT X0 11 1000013 Z68.q13.s Z68.q13.u :=
 cu hX Try.f11 (by kernel_rfl) (fun _ _ h => h) (D61 hX) nL (fun n v K => by kernel_rfl)
theorem Z68.q19_ok : LT X0 11 1000019 Z68.q19.s Z68.q19.u :=
 cu hX Try.f11 (by kernel_rfl) (fun _ _ h => h) (D61 hX) nL (fun n v K => by kernel_rfl)
theorem Z68.q4_ok : LT X0 11 1000004 Z68.q4.s Z68.q4.u :=
 cu hX Try.f11 (by kernel_rfl) (fun _ _ h => h) (D61 hX) nL (fun n v K => by kernel_rfl)
theorem Z68.q4_1_ok : LT X0 11 1000004 Z68.q4_1.s Z68.q4_1.u :=
 cu hX Try.f11 (by kernel_rfl) (fun _ _ h => h) (D61 hX) nL (fun n v K => by kernel_rfl)
theorem Z68.q19_1_ok : LT X0 11 1000019 Z68.q19_1.s Z68.q19_1.u :=
 cu hX Try.f11 (by kernel_rfl) (fun _ _ h => h) (D61 hX) nL (fun n v K => by kernel_rfl)
theorem Z68.q4_2_ok : LT X0 11 1000004 Z68.q4_2.s Z68.q4_2.u :=
 cu hX Try.f11 (by kernel_rfl) (fun _ _ h => h) (D61 hX) nL (fun n v K => by kernel_rfl)
theorem Z68.q19_2_ok : LT X0 11 1000019 Z68.q19_2.s Z68.q19_2.u :=
 cu hX Try.f11 (by kernel_rfl) (fun _ _ h => h) (D61 hX) nL (fun n v K => by kernel_rfl)
theorem Z68.q4_3_ok : LT X0 11 1000004 Z68.q4_3.s Z68.q4_3.u :=
 cu hX Try.f11 (by kernel_rfl) (fun _ _ h => h) (D61 hX) nL (fun n v K => by kernel_rfl)
theorem Z68.q19_3_ok : LT X0 11 1000019 Z68.q19_3.s Z68.q19_3.u :=
 cu hX Try.f11 (by kernel_rfl) (fun _ _ h => h) (D61 hX) nL (fun n v K => by kernel_rfl)
theorem Z68.q19_4_ok : LT X0 11 1000019 Z68.q19_4.s Z68.q19_4.u :=
 cu hX Try.f11 (by kernel_rfl) (fun _ _ h => h) (D61 hX) nL (fun n v K => by kernel_rfl)
theorem Z68.q4_4_ok : LT X0 11 1000004 Z68.q4_4.s Z68.q4_4.u :=
 cu hX Try.f11 (by kernel_rfl) (fun _ _ h => h) (D61 hX) nL (fun n v K => by kernel_rfl)
theorem Z68.l3_ok : LT X0 11 3 Z68.l3.s Z68.l3.u :=
 lt hX Try.f11 (by kernel_rfl) (fun _ _ h => h) (D61 hX) (oL (Z68.q4_ok hX) (oL (Z68.q13_ok hX) (oL (Z68.q19_ok hX) (oL (Z68.q4_1_ok hX) (oL (Z68.q4_2_ok hX) (oL (Z68.q4_3_ok hX) (oL (Z68.q4_4_ok hX) (oL (Z68.q19_1_ok hX) (oL (Z68.q19_2_ok hX) (oL (Z68.q19_3_ok hX) (oL (Z68.q19_4_ok hX) nL))))))))))) (fun n v K => by kernel_rfl)
theorem Z68.l34_ok : LT X0 11 34 Z68.l34.s Z68.l34.u :=
 lt hX Try.f11 (by kernel_rfl) (fun _ _ h => h) (D61 hX) nL (fun n v K => by kernel_rfl)
theorem qOl : CT X0 11 Z68.a Z68.u :=
 ct hX Try.f11 (by kernel_rfl) (fun _ _ h => h) (D61 hX) (oL (Z68.l3_ok hX) (oL (Z68.l34_ok hX) nL)) (fun n v K => by kernel_rfl)
def D62 : CS X0 := oC (qOl hX) (D61 hX)
end
end Go.Vsi
end

section
namespace Go.Vsi
open Go.Proofs
section
variable {X0 : jG} (hX : jG.Mono X0)
include hX
abbrev Z39.a : List TS := [.c (.o (.dat 5 (.int .u8)))]
def Z39.u (n : Nat) (v : VA Z39.a) (K : RES -> Prop) : Prop := Z39.c n v.1 (fun r0 r1 r2 r3 r4 => K ⟨.tup [.agg [.dat 34 Y13 r0, .dat 52 Y2 r1, .int .i64 r2], .c (.str r3), .c (.int .i64 r4)], []⟩)
theorem qOO : CT X0 5 Z39.a Z39.u :=
 ct hX Try.f5 (by kernel_rfl) (fun _ _ h => h) (D62 hX) nL (fun n v K => by kernel_rfl)
def D63 : CS X0 := oC (qOO hX) (D62 hX)
abbrev Z17.a : List TS := [.c (.o .str)]
def Z17.u (n : Nat) (v : VA Z17.a) (K : RES -> Prop) : Prop := Z17.c n v.1 (fun r0 => K ⟨.c (.bool r0), []⟩)
abbrev Z17.l4.s : ST := ⟨[(0, .c (.o .str)), (3, .c (.o (.int .i64)))], [], [], [], []⟩
def Z17.l4.u (n : Nat) (v : Z17.l4.s.V) (K : X -> St -> Prop) : Prop := Z17.l4 n v.1.1 v.1.2.1 (K (.exit 0) ⟨[], [], [], [], []⟩) (fun y0 => K .ret ⟨[(2, .c (.bool y0))], [], [], [], []⟩)
theorem Z17.l4_ok : LT X0 22 4 Z17.l4.s Z17.l4.u :=
 lt hX Try.f22 (by kernel_rfl) (fun _ _ h => h) (D63 hX) nL (fun n v K => by kernel_rfl)
theorem qPe : CT X0 22 Z17.a Z17.u :=
 ct hX Try.f22 (by kernel_rfl) (fun _ _ h => h) (D63 hX) (oL (Z17.l4_ok hX) nL) (fun n v K => by kernel_rfl)
def D64 : CS X0 := oC (qPe hX) (D63 hX)
abbrev Z15.a : List TS := [.c (.o (.int .i64)), .c (.o (.int .i64)), .c (.o (.int .i64))]
def Z15.u (n : Nat) (v : VA Z15.a) (K : RES -> Prop) : Prop := Z15.c n v.1 v.2.1 v.2.2.1 (fun r0 => K ⟨.c (.bool r0), []⟩)
theorem qPg : CT X0 24 Z15.a Z15.u :=
 ct hX Try.f24 (by kernel_rfl) (fun _ _ h => h) (D64 hX) nL (fun n v K => by kernel_rfl)
def D65 : CS X0 := oC (qPg hX) (D64 hX)
abbrev Z14.a : List TS := [.a [.o .str, .o (.int .i64)], .c (.o (.pdat 9 .str 0))]
def Z14.u (n : Nat) (v : VA Z14.a) (K : RES -> Prop) : Prop := Z14.c n v.1.1 v.1.2.1 v.2.1 (fun r0 => K ⟨.c (.bool r0), []⟩)
theorem qPh : CT X0 46 Z14.a Z14.u :=
 ct hX Try.f46 (by kernel_rfl) (fun _ _ h => h) (D65 hX) nL (fun n v K => by kernel_rfl)
def D66 : CS X0 := oC (qPh hX) (D65 hX)
abbrev Z32.a : List TS := [.c (.o (.dat 34 Y13)), .c (.fn 46 [(false, 1)] 0 [.pdat 9 .str 0])]
def Z32.u (n : Nat) (v : VA Z32.a) (K : RES -> Prop) : Prop := Z32.c n v.1 v.2.1.1 (fun r0 => K ⟨.c (.int .i64 r0), []⟩)
abbrev Z32.l2.s : ST := ⟨[(0, .c (.o (.dat 34 Y13))), (1, .c (.fn 46 [(false, 1)] 0 [.pdat 9 .str 0])), (7, .c (.o (.int .i64))), (8, .c (.o (.int .i64)))], [], [], [], []⟩
def Z32.l2.u (n : Nat) (v : Z32.l2.s.V) (K : X -> St -> Prop) : Prop := Z32.l2 n v.1.1 v.1.2.1.1 v.1.2.2.1 v.1.2.2.2.1 (K (.exit 0) ⟨[], [], [], [], []⟩) (fun y0 => K .ret ⟨[(4, .c (.int .i64 y0))], [], [], [], []⟩)
theorem Z32.l2_ok : LT X0 45 2 Z32.l2.s Z32.l2.u :=
 lt hX Try.f45 (by kernel_rfl) (fun _ _ h => h) (D66 hX) nL (fun n v K => by kernel_rfl)
theorem qOX : CT X0 45 Z32.a Z32.u :=
 ct hX Try.f45 (by kernel_rfl) (fun _ _ h => h) (D66 hX) (oL (Z32.l2_ok hX) nL) (fun n v K => by kernel_rfl)
def D67 : CS X0 := oC (qOX hX) (D66 hX)
abbrev Z13.a : List TS := [.c (.o (.dat 34 Y13)), .c (.o .str)]
def Z13.u (n : Nat) (v : VA Z13.a) (K : RES -> Prop) : Prop := Z13.c n v.1 v.2.1 (fun r0 => K ⟨.c (.int .i64 r0), []⟩)
theorem qPi : CT X0 23 Z13.a Z13.u :=
 ct hX Try.f23 (by kernel_rfl) (fun _ _ h => h) (D67 hX) nL (fun n v K => by kernel_rfl)
def D68 : CS X0 := oC (qPi hX) (D67 hX)
abbrev Z2.a : List TS := [.c (.o (.dat 34 Y13))]
def Z2.u (n : Nat) (v : VA Z2.a) (K : RES -> Prop) : Prop := Z2.c n v.1 (fun r0 => K ⟨.c (.bool r0), []⟩)
abbrev Z2.l5.s : ST := ⟨[(0, .c (.o (.dat 34 Y13))), (3, .c (.o (.int .i64))), (9, .c (.o (.dat 34 Y13))), (10, .c (.o (.int .i64))), (11, .c (.o (.int .i64)))], [], [], [], []⟩
def Z2.l5.u (n : Nat) (v : Z2.l5.s.V) (K : X -> St -> Prop) : Prop := Z2.l5 n v.1.1 v.1.2.2.1 v.1.2.2.2.1 v.1.2.1 v.1.2.2.2.2.1 (fun y0 => K (.exit 0) ⟨[(3, .c (.int .i64 y0))], [], [], [], []⟩) (fun y0 => K .ret ⟨[(2, .c (.bool y0))], [], [], [], []⟩)
theorem Z2.l5_ok : LT X0 27 5 Z2.l5.s Z2.l5.u :=
 lt hX Try.f27 (by kernel_rfl) (fun _ _ h => h) (D68 hX) nL (fun n v K => by kernel_rfl)
theorem qPN : CT X0 27 Z2.a Z2.u :=
 ct hX Try.f27 (by kernel_rfl) (fun _ _ h => h) (D68 hX) (oL (Z2.l5_ok hX) nL) (fun n v K => by kernel_rfl)
def D69 : CS X0 := oC (qPN hX) (D68 hX)
abbrev Z5.a : List TS := [.c (.o (.pdat 27 Y1 0)), .c (.o (.int .i64))]
def Z5.u (n : Nat) (v : VA Z5.a) (K : RES -> Prop) : Prop := Z5.c n v.1 v.2.1 (fun r0 => K ⟨.c (.int .i64 r0), []⟩)
theorem qPK : CT X0 29 Z5.a Z5.u :=
 ct hX Try.f29 (by kernel_rfl) (fun _ _ h => h) (D69 hX) nL (fun n v K => by kernel_rfl)
def D70 : CS X0 := oC (qPK hX) (D69 hX)
abbrev Z21.a : List TS := [.c (.o (.int .i64))]
def Z21.u (n : Nat) (v : VA Z21.a) (K : RES -> Prop) : Prop := Z21.c n v.1 (fun r0 => K ⟨.c (.int .i64 r0), []⟩)
theorem qPa : CT X0 98 Z21.a Z21.u :=
 ct hX Try.f98 (by kernel_rfl) (fun _ _ h => h) (D70 hX) nL (fun n v K => by kernel_rfl)
def D71 : CS X0 := oC (qPa hX) (D70 hX)
abbrev Z0.a : List TS := [.a [.o (.int .i64), .o (.dat 91 (.int .u64))]]
def Z0.u (n : Nat) (v : VA Z0.a) (K : RES -> Prop) : Prop := Z0.c n v.1.1 v.1.2.1 (fun r0 => K ⟨.c (.bool r0), []⟩)
theorem qPP : CT X0 88 Z0.a Z0.u :=
 ct hX Try.f88 (by kernel_rfl) (fun _ _ h => h) (D71 hX) nL (fun n v K => by kernel_rfl)
def D72 : CS X0 := oC (qPP hX) (D71 hX)
abbrev Z7.a : List TS := [.c (.o (.pdat 84 Y6 0)), .c (.o (.dat 34 Y13)), .c (.o (.dat 2 (.int .i64)))]
def Z7.u (n : Nat) (v : VA Z7.a) (K : RES -> Prop) : Prop := Z7.c n v.1 v.2.1 v.2.2.1 (fun r0 => K ⟨.c (.int .i64 r0), []⟩)
abbrev Z7.l11.s : ST := ⟨[(8, .c (.o (.int .i64))), (80, .c (.o (.dat 2 (.int .i64)))), (81, .c (.o (.int .i64))), (82, .c (.o (.int .i64)))], [], [], [], []⟩
def Z7.l11.u (n : Nat) (v : Z7.l11.s.V) (K : X -> St -> Prop) : Prop := Z7.l11 n v.1.2.1 v.1.2.2.1 v.1.1 v.1.2.2.2.1 (fun y0 => K (.exit 1) ⟨[(8, .c (.int .i64 y0))], [], [], [], []⟩)
abbrev Z7.q21.s : ST := ⟨[(0, .c (.o (.pdat 84 Y6 0))), (7, .c (.o (.int .i64))), (137, .c (.o .bool))], [], [], [], []⟩
def Z7.q21.u (n : Nat) (v : Z7.q21.s.V) (K : X -> St -> Prop) : Prop := Z7.q21 n v.1.1 v.1.2.1 v.1.2.2.1 (fun y0 => K .ret ⟨[(6, .c (.int .i64 y0))], [], [], [], []⟩) (K .normal ⟨[], [], [], [], []⟩)
abbrev Z7.q9.s : ST := ⟨[(0, .c (.o (.pdat 84 Y6 0))), (2, .c (.o (.dat 2 (.int .i64)))), (7, .c (.o (.int .i64))), (69, .c (.o .bool))], [], [], [], []⟩
def Z7.q9.u (n : Nat) (v : Z7.q9.s.V) (K : X -> St -> Prop) : Prop := Z7.q9 n v.1.1 v.1.2.1 v.1.2.2.1 v.1.2.2.2.1 (fun y0 => K .ret ⟨[(6, .c (.int .i64 y0))], [], [], [], []⟩) (K .normal ⟨[], [], [], [], []⟩)
abbrev Z7.q5.s : ST := ⟨[(0, .c (.o (.pdat 84 Y6 0))), (1, .c (.o (.dat 34 Y13))), (2, .c (.o (.dat 2 (.int .i64)))), (7, .c (.o (.int .i64))), (17, .c (.o .bool))], [], [], [], []⟩
def Z7.q5.u (n : Nat) (v : Z7.q5.s.V) (K : X -> St -> Prop) : Prop := Z7.q5 n v.1.1 v.1.2.1 v.1.2.2.1 v.1.2.2.2.1 v.1.2.2.2.2.1 (fun y0 => K .ret ⟨[(6, .c (.int .i64 y0))], [], [], [], []⟩) (K .normal ⟨[], [], [], [], []⟩)
theorem Z7.l11_ok : LT X0 73 11 Z7.l11.s Z7.l11.u :=
 lt hX Try.f73 (by kernel_rfl) (fun _ _ h => h) (D72 hX) nL (fun n v K => by kernel_rfl)
theorem Z7.q21_ok : LT X0 73 1000021 Z7.q21.s Z7.q21.u :=
 cu hX Try.f73 (by kernel_rfl) (fun _ _ h => h) (D72 hX) nL (fun n v K => by kernel_rfl)
theorem Z7.q9_ok : LT X0 73 1000009 Z7.q9.s Z7.q9.u :=
 cu hX Try.f73 (by kernel_rfl) (fun _ _ h => h) (D72 hX) (oL (Z7.l11_ok hX) (oL (Z7.q21_ok hX) nL)) (fun n v K => by kernel_rfl)
theorem Z7.q5_ok : LT X0 73 1000005 Z7.q5.s Z7.q5.u :=
 cu hX Try.f73 (by kernel_rfl) (fun _ _ h => h) (D72 hX) (oL (Z7.q9_ok hX) nL) (fun n v K => by kernel_rfl)
theorem qPI : CT X0 73 Z7.a Z7.u :=
 ct hX Try.f73 (by kernel_rfl) (fun _ _ h => h) (D72 hX) (oL (Z7.q5_ok hX) nL) (fun n v K => by kernel_rfl)
def D73 : CS X0 := oC (qPI hX) (D72 hX)
abbrev Z6.a : List TS := [.c (.o (.pdat 84 Y6 0))]
def Z6.u (n : Nat) (v : VA Z6.a) (K : RES -> Prop) : Prop := Z6.c n v.1 (fun r0 => K ⟨.c (.bool r0), []⟩)
abbrev Z6.q3.s : ST := ⟨[(0, .c (.o (.pdat 84 Y6 0))), (52, .c (.o .bool))], [], [], [], []⟩
def Z6.q3.u (n : Nat) (v : Z6.q3.s.V) (K : X -> St -> Prop) : Prop := Z6.q3 n v.1.1 v.1.2.1 (fun y0 => K .ret ⟨[(2, .c (.bool y0))], [], [], [], []⟩) (fun y0 => K .normal ⟨[(0, .c (.pdat 84 Y6 y0 0))], [], [], [], []⟩)
abbrev Z6.q2.s : ST := ⟨[(0, .c (.o (.pdat 84 Y6 0))), (3, .c (.o .bool))], [], [], [], []⟩
def Z6.q2.u (n : Nat) (v : Z6.q2.s.V) (K : X -> St -> Prop) : Prop := Z6.q2 n v.1.1 v.1.2.1 (fun y0 => K .ret ⟨[(2, .c (.bool y0))], [], [], [], []⟩)
theorem Z6.q3_ok : LT X0 74 1000003 Z6.q3.s Z6.q3.u :=
 cu hX Try.f74 (by kernel_rfl) (fun _ _ h => h) (D73 hX) nL (fun n v K => by kernel_rfl)
theorem Z6.q2_ok : LT X0 74 1000002 Z6.q2.s Z6.q2.u :=
 cu hX Try.f74 (by kernel_rfl) (fun _ _ h => h) (D73 hX) (oL (Z6.q3_ok hX) nL) (fun n v K => by kernel_rfl)
theorem qPJ : CT X0 74 Z6.a Z6.u :=
 ct hX Try.f74 (by kernel_rfl) (fun _ _ h => h) (D73 hX) (oL (Z6.q2_ok hX) nL) (fun n v K => by kernel_rfl)
def D74 : CS X0 := oC (qPJ hX) (D73 hX)
abbrev Z33.a : List TS := [.c (.o (.dat 4 .bool)), .c (.o .bool)]
def Z33.u (n : Nat) (v : VA Z33.a) (K : RES -> Prop) : Prop := Z33.c n v.1 v.2.1 (fun r0 => K ⟨.c (.int .i64 r0), []⟩)
abbrev Z33.l2.s : ST := ⟨[(0, .c (.o (.dat 4 .bool))), (1, .c (.o .bool)), (7, .c (.o (.int .i64))), (8, .c (.o (.int .i64)))], [], [], [], []⟩
def Z33.l2.u (n : Nat) (v : Z33.l2.s.V) (K : X -> St -> Prop) : Prop := Z33.l2 n v.1.1 v.1.2.1 v.1.2.2.1 v.1.2.2.2.1 (K (.exit 0) ⟨[], [], [], [], []⟩) (fun y0 => K .ret ⟨[(4, .c (.int .i64 y0))], [], [], [], []⟩)
theorem Z33.l2_ok : LT X0 89 2 Z33.l2.s Z33.l2.u :=
 lt hX Try.f89 (by kernel_rfl) (fun _ _ h => h) (D74 hX) nL (fun n v K => by kernel_rfl)
theorem qOV : CT X0 89 Z33.a Z33.u :=
 ct hX Try.f89 (by kernel_rfl) (fun _ _ h => h) (D74 hX) (oL (Z33.l2_ok hX) nL) (fun n v K => by kernel_rfl)
def D75 : CS X0 := oC (qOV hX) (D74 hX)
abbrev Z31.a : List TS := [.c (.o (.dat 4 .bool)), .c (.o .bool)]
def Z31.u (n : Nat) (v : VA Z31.a) (K : RES -> Prop) : Prop := Z31.c n v.1 v.2.1 (fun r0 => K ⟨.c (.bool r0), []⟩)
theorem qOZ : CT X0 75 Z31.a Z31.u :=
 ct hX Try.f75 (by kernel_rfl) (fun _ _ h => h) (D75 hX) nL (fun n v K => by kernel_rfl)
def D76 : CS X0 := oC (qOZ hX) (D75 hX)
abbrev Z20.a : List TS := [.c (.o (.dat 34 Y13)), .a [.o (.dat 84 Y6)]]
def Z20.u (n : Nat) (v : VA Z20.a) (K : RES -> Prop) : Prop := Z20.c n v.1 v.2.1.1 (fun r0 r1 => K ⟨.tup [.c (.row ⟨2, .int .i64, r0, 99, none⟩), .c (.bool r1)], []⟩)
abbrev Z20.l13.s : ST := ⟨[(0, .c (.o (.dat 34 Y13))), (3, .c (.o (.pbox 3 0))), (6, .c (.o (.int .i64))), (7, .c (.o (.own 768))), (8, .c (.o (.own 832))), (9, .c (.o (.int .i64))), (10, .c (.o (.pdat 84 Y6 0))), (11, .c (.o (.own 1536))), (29, .c (.o (.int .i64))), (30, .c (.o (.int .i64))), (52, .c (.o (.dat 2 (.int .i64)))), (53, .c (.o (.int .i64))), (54, .c (.o (.int .i64)))], [⟨768, 2, .int .i64, 99⟩, ⟨832, 4, .bool, 99⟩, ⟨1536, 2, .int .i64, 99⟩], [⟨3, 59, [.o (.dat 84 Y6)], false, false⟩], [], []⟩
def Z20.l13.u (n : Nat) (v : Z20.l13.s.V) (K : X -> St -> Prop) : Prop := Z20.l13 n v.1.1 v.1.2.2.1 v.1.2.2.2.2.2.1 v.1.2.2.2.2.2.2.1 v.1.2.2.2.2.2.2.2.2.1 v.1.2.2.2.2.2.2.2.2.2.1 v.1.2.2.2.2.2.2.2.2.2.2.1 v.1.2.2.2.2.2.2.2.2.2.2.2.1 v.2.1.1 v.2.2.1.1 v.1.2.2.2.2.2.2.2.2.2.2.2.2.1 v.2.1.2.1 v.2.1.2.2.1 (fun y0 y1 y2 y3 y4 y5 y6 y7 y8 y9 => K (.exit 2) ⟨[(0, .c (.dat 34 Y13 y0)), (3, .c (.pbox 3 0)), (6, .c (.int .i64 y1)), (7, .c (.own 768)), (8, .c (.own 832)), (9, .c (.int .i64 y2)), (10, .c (.pdat 84 Y6 y3 0)), (11, .c (.own 1536)), (29, .c (.int .i64 y4)), (30, .c (.int .i64 y5))], [(768, ⟨2, .int .i64, y6, 99, none⟩), (832, ⟨4, .bool, y7, 99, none⟩), (1536, ⟨2, .int .i64, y8, 99, none⟩)], [(3, ⟨59, [.dat 84 Y6 y9], false, false⟩)], [], []⟩) (fun y0 y1 => K .ret ⟨[(4, .c (.own 128)), (5, .c (.bool y0))], [(128, ⟨2, .int .i64, y1, 99, none⟩)], [], [], []⟩)
abbrev Z20.l6.s : ST := ⟨[(0, .c (.o (.dat 34 Y13))), (3, .c (.o (.pbox 3 0))), (6, .c (.o (.int .i64))), (7, .c (.o (.own 768))), (8, .c (.o (.own 832))), (29, .c (.o (.int .i64))), (30, .c (.o (.int .i64)))], [⟨768, 2, .int .i64, 99⟩, ⟨832, 4, .bool, 99⟩], [⟨3, 59, [.o (.dat 84 Y6)], false, false⟩], [], []⟩
def Z20.l6.u (n : Nat) (v : Z20.l6.s.V) (K : X -> St -> Prop) : Prop := Z20.l6 n v.1.1 v.1.2.2.1 v.1.2.2.2.2.2.1 v.1.2.2.2.2.2.2.1 v.2.1.1 v.2.1.2.1 v.2.2.1.1 (fun y0 y1 y2 => K (.exit 0) ⟨[(6, .c (.int .i64 y0)), (7, .c (.own 768)), (8, .c (.own 832))], [(768, ⟨2, .int .i64, y1, 99, none⟩), (832, ⟨4, .bool, y2, 99, none⟩)], [], [], []⟩) (fun y0 y1 => K .ret ⟨[(4, .c (.own 128)), (5, .c (.bool y0))], [(128, ⟨2, .int .i64, y1, 99, none⟩)], [], [], []⟩)
theorem Z20.l13_ok : LT X0 61 13 Z20.l13.s Z20.l13.u :=
 lt hX Try.f61 (by kernel_rfl) (fun _ _ h => h) (D76 hX) nL (fun n v K => by kernel_rfl)
theorem Z20.l6_ok : LT X0 61 6 Z20.l6.s Z20.l6.u :=
 lt hX Try.f61 (by kernel_rfl) (fun _ _ h => h) (D76 hX) (oL (Z20.l13_ok hX) nL) (fun n v K => by kernel_rfl)
theorem qPb : CT X0 61 Z20.a Z20.u :=
 ct hX Try.f61 (by kernel_rfl) (fun _ _ h => h) (D76 hX) (oL (Z20.l6_ok hX) nL) (fun n v K => by kernel_rfl)
def D77 : CS X0 := oC (qPb hX) (D76 hX)
abbrev Z19.a : List TS := [.c (.o (.dat 34 Y13)), .a [.o (.dat 84 Y6)]]
def Z19.u (n : Nat) (v : VA Z19.a) (K : RES -> Prop) : Prop := Z19.c n v.1 v.2.1.1 (fun r0 => K ⟨.c (.int .i64 r0), []⟩)
theorem qPc : CT X0 48 Z19.a Z19.u :=
 ct hX Try.f48 (by kernel_rfl) (fun _ _ h => h) (D77 hX) nL (fun n v K => by kernel_rfl)
def D78 : CS X0 := oC (qPc hX) (D77 hX)
abbrev Z16.a : List TS := [.c (.o (.dat 34 Y13)), .c (.o (.dat 61 Y3))]
def Z16.u (n : Nat) (v : VA Z16.a) (K : RES -> Prop) : Prop := Z16.c n v.1 v.2.1 (fun r0 => K ⟨.c (.bool r0), []⟩)
abbrev Z16.l5.s : ST := ⟨[(0, .c (.o (.dat 34 Y13))), (5, .c (.o (.int .i64))), (12, .c (.o (.dat 61 Y3))), (13, .c (.o (.int .i64))), (14, .c (.o (.int .i64)))], [], [], [], []⟩
def Z16.l5.u (n : Nat) (v : Z16.l5.s.V) (K : X -> St -> Prop) : Prop := Z16.l5 n v.1.1 v.1.2.2.1 v.1.2.2.2.1 v.1.2.1 v.1.2.2.2.2.1 (K (.exit 0) ⟨[], [], [], [], []⟩) (fun y0 => K .ret ⟨[(4, .c (.bool y0))], [], [], [], []⟩)
theorem Z16.l5_ok : LT X0 28 5 Z16.l5.s Z16.l5.u :=
 lt hX Try.f28 (by kernel_rfl) (fun _ _ h => h) (D78 hX) nL (fun n v K => by kernel_rfl)
theorem qPf : CT X0 28 Z16.a Z16.u :=
 ct hX Try.f28 (by kernel_rfl) (fun _ _ h => h) (D78 hX) (oL (Z16.l5_ok hX) nL) (fun n v K => by kernel_rfl)
def D79 : CS X0 := oC (qPf hX) (D78 hX)
abbrev Z4.a : List TS := [.c (.o (.pdat 27 Y1 0))]
def Z4.u (n : Nat) (v : VA Z4.a) (K : RES -> Prop) : Prop := Z4.c n v.1 (fun r0 => K ⟨.c (.row ⟨61, .prod (.int .i64) Y4, r0, 1, none⟩), []⟩)
abbrev Z4.l3.s : ST := ⟨[(3, .c (.o (.own 96))), (10, .c (.o (.dat 52 Y2))), (11, .c (.o (.int .i64))), (12, .c (.o (.int .i64)))], [⟨96, 61, .prod (.int .i64) Y4, 1⟩], [], [], []⟩
def Z4.l3.u (n : Nat) (v : Z4.l3.s.V) (K : X -> St -> Prop) : Prop := Z4.l3 n v.1.2.1 v.1.2.2.1 v.1.2.2.2.1 v.2.1.1 (fun y0 => K (.exit 0) ⟨[(3, .c (.own 96))], [(96, ⟨61, .prod (.int .i64) Y4, y0, 1, none⟩)], [], [], []⟩)
theorem Z4.l3_ok : LT X0 30 3 Z4.l3.s Z4.l3.u :=
 lt hX Try.f30 (by kernel_rfl) (fun _ _ h => h) (D79 hX) nL (fun n v K => by kernel_rfl)
theorem qPL : CT X0 30 Z4.a Z4.u :=
 ct hX Try.f30 (by kernel_rfl) (fun _ _ h => h) (D79 hX) (oL (Z4.l3_ok hX) nL) (fun n v K => by kernel_rfl)
def D80 : CS X0 := oC (qPL hX) (D79 hX)
abbrev Z3.a : List TS := [.a [.o (.dat 34 Y13), .o (.dat 52 Y2), .o (.int .i64)]]
def Z3.u (n : Nat) (v : VA Z3.a) (K : RES -> Prop) : Prop := Z3.c n v.1.1 v.1.2.1 v.1.2.2.1 (fun r0 => K ⟨.c (.bool r0), []⟩)
abbrev Z3.l5.s : ST := ⟨[(1, .c (.o (.pbox 1 0))), (3, .c (.o (.int .i64))), (34, .c (.o (.dat 52 Y2))), (35, .c (.o (.int .i64))), (36, .c (.o (.int .i64)))], [], [⟨1, 27, [.o (.dat 34 Y13), .o (.dat 52 Y2), .o (.int .i64)], false, false⟩], [], []⟩
def Z3.l5.u (n : Nat) (v : Z3.l5.s.V) (K : X -> St -> Prop) : Prop := Z3.l5 n v.1.2.2.1 v.1.2.2.2.1 v.2.2.1.1 v.2.2.1.2.1 v.2.2.1.2.2.1 v.1.2.1 v.1.2.2.2.2.1 (fun y0 y1 y2 => K (.exit 0) ⟨[(1, .c (.pbox 1 0))], [], [(1, ⟨27, [.dat 34 Y13 y0, .dat 52 Y2 y1, .int .i64 y2], false, false⟩)], [], []⟩) (fun y0 => K .ret ⟨[(2, .c (.bool y0))], [], [], [], []⟩)
abbrev Z3.l12.s : ST := ⟨[(1, .c (.o (.pbox 1 0))), (62, .c (.o (.dat 52 Y2))), (63, .c (.o (.int .i64))), (64, .c (.o (.int .i64)))], [], [⟨1, 27, [.o (.dat 34 Y13), .o (.dat 52 Y2), .o (.int .i64)], false, false⟩], [], []⟩
def Z3.l12.u (n : Nat) (v : Z3.l12.s.V) (K : X -> St -> Prop) : Prop := Z3.l12 n v.1.2.1 v.1.2.2.1 v.2.2.1.1 v.2.2.1.2.1 v.2.2.1.2.2.1 v.1.2.2.2.1 (fun y0 y1 y2 => K (.exit 2) ⟨[(1, .c (.pbox 1 0))], [], [(1, ⟨27, [.dat 34 Y13 y0, .dat 52 Y2 y1, .int .i64 y2], false, false⟩)], [], []⟩) (fun y0 => K .ret ⟨[(2, .c (.bool y0))], [], [], [], []⟩)
abbrev Z3.l21.s : ST := ⟨[(1, .c (.o (.pbox 1 0))), (8, .c (.o (.own 2528))), (83, .c (.o (.own 2528))), (84, .c (.o (.int .i64))), (85, .c (.o (.int .i64)))], [⟨2528, 61, .prod (.int .i64) Y4, 1⟩], [⟨1, 27, [.o (.dat 34 Y13), .o (.dat 52 Y2), .o (.int .i64)], true, false⟩], [], []⟩
def Z3.l21.u (n : Nat) (v : Z3.l21.s.V) (K : X -> St -> Prop) : Prop := Z3.l21 n v.1.2.2.2.1 v.2.1.1 v.2.2.1.1 v.2.2.1.2.1 v.2.2.1.2.2.1 v.1.2.2.2.2.1 (K (.exit 4) ⟨[], [], [], [], []⟩) (fun y0 => K .ret ⟨[(2, .c (.bool y0))], [], [], [], []⟩)
theorem Z3.l5_ok : LT X0 9 5 Z3.l5.s Z3.l5.u :=
 lt hX Try.f9 (by kernel_rfl) (fun _ _ h => h) (D80 hX) nL (fun n v K => by kernel_rfl)
theorem Z3.l12_ok : LT X0 9 12 Z3.l12.s Z3.l12.u :=
 lt hX Try.f9 (by kernel_rfl) (fun _ _ h => h) (D80 hX) nL (fun n v K => by kernel_rfl)
theorem Z3.l21_ok : LT X0 9 21 Z3.l21.s Z3.l21.u :=
 lt hX Try.f9 (by kernel_rfl) (fun _ _ h => h) (D80 hX) nL (fun n v K => by kernel_rfl)
theorem qPM : CT X0 9 Z3.a Z3.u :=
 ct hX Try.f9 (by kernel_rfl) (fun _ _ h => h) (D80 hX) (oL (Z3.l5_ok hX) (oL (Z3.l12_ok hX) (oL (Z3.l21_ok hX) nL))) (fun n v K => by kernel_rfl)
def D81 : CS X0 := oC (qPM hX) (D80 hX)
abbrev Z28.a : List TS := [.c (.o (.dat 34 Y13))]
def Z28.u (n : Nat) (v : VA Z28.a) (K : RES -> Prop) : Prop := Z28.c n v.1 (fun r0 => K ⟨.c (.row ⟨34, .prod .str (.int .i64), r0, 99, none⟩), []⟩)
theorem qO3 : CT X0 43 Z28.a Z28.u :=
 ct hX Try.f43 (by kernel_rfl) (fun _ _ h => h) (D81 hX) nL (fun n v K => by kernel_rfl)
def D82 : CS X0 := oC (qO3 hX) (D81 hX)
abbrev Z30.a : List TS := [.c (.o (.dat 91 (.int .u64)))]
def Z30.u (n : Nat) (v : VA Z30.a) (K : RES -> Prop) : Prop := Z30.c n v.1 (fun r0 => K ⟨.c (.row ⟨91, .int .u64, r0, 99, none⟩), []⟩)
theorem qO1 : CT X0 97 Z30.a Z30.u :=
 ct hX Try.f97 (by kernel_rfl) (fun _ _ h => h) (D82 hX) nL (fun n v K => by kernel_rfl)
def D83 : CS X0 := oC (qO1 hX) (D82 hX)
abbrev Z8.a : List TS := [.a [.o (.int .i64), .o (.dat 91 (.int .u64))]]
def Z8.u (n : Nat) (v : VA Z8.a) (K : RES -> Prop) : Prop := Z8.c n v.1.1 v.1.2.1 (fun r0 r1 => K ⟨.agg [.int .i64 r0, .row ⟨91, .int .u64, r1, 99, none⟩], []⟩)
theorem qPH : CT X0 86 Z8.a Z8.u :=
 ct hX Try.f86 (by kernel_rfl) (fun _ _ h => h) (D83 hX) nL (fun n v K => by kernel_rfl)
def D84 : CS X0 := oC (qPH hX) (D83 hX)
abbrev Z29.a : List TS := [.c (.o (.dat 2 (.int .i64)))]
def Z29.u (n : Nat) (v : VA Z29.a) (K : RES -> Prop) : Prop := Z29.c n v.1 (fun r0 => K ⟨.c (.row ⟨2, .int .i64, r0, 99, none⟩), []⟩)
theorem qO2 : CT X0 87 Z29.a Z29.u :=
 ct hX Try.f87 (by kernel_rfl) (fun _ _ h => h) (D84 hX) nL (fun n v K => by kernel_rfl)
def D85 : CS X0 := oC (qO2 hX) (D84 hX)
abbrev Z10.a : List TS := [.a [.o (.int .i64), .o (.int .i64), .o (.int .i64), .o (.int .i64), .o (.int .i64), .o (.dat 91 (.int .u64)), .o (.dat 2 (.int .i64))]]
def Z10.u (n : Nat) (v : VA Z10.a) (K : RES -> Prop) : Prop := Z10.c n v.1.1 v.1.2.1 v.1.2.2.1 v.1.2.2.2.1 v.1.2.2.2.2.1 v.1.2.2.2.2.2.1 v.1.2.2.2.2.2.2.1 (fun r0 r1 r2 r3 r4 r5 r6 => K ⟨.agg [.int .i64 r0, .int .i64 r1, .int .i64 r2, .int .i64 r3, .int .i64 r4, .row ⟨91, .int .u64, r5, 99, none⟩, .row ⟨2, .int .i64, r6, 99, none⟩], []⟩)
theorem qPl : CT X0 72 Z10.a Z10.u :=
 ct hX Try.f72 (by kernel_rfl) (fun _ _ h => h) (D85 hX) nL (fun n v K => by kernel_rfl)
def D86 : CS X0 := oC (qPl hX) (D85 hX)
abbrev Z12.a : List TS := [.a [.o (.dat 84 Y6)]]
def Z12.u (n : Nat) (v : VA Z12.a) (K : RES -> Prop) : Prop := Z12.c n v.1.1 (fun r0 => K ⟨.agg [.row ⟨84, .prod (.int .i64) Y7, r0, 99, none⟩], []⟩)
abbrev Z12.l3.s : ST := ⟨[(2, .c (.o (.pbox 2 0))), (3, .c (.o (.pbox 3 0))), (12, .c (.o (.dat 84 Y6))), (13, .c (.o (.int .i64))), (14, .c (.o (.int .i64)))], [⟨288, 84, .prod (.int .i64) Y7, 99⟩, ⟨1000064, 84, .prod (.int .i64) Y7, 99⟩], [⟨2, 59, [.o (.own 1000064)], false, false⟩, ⟨3, 59, [.o (.own 288)], false, false⟩], [], []⟩
def Z12.l3.u (n : Nat) (v : Z12.l3.s.V) (K : X -> St -> Prop) : Prop := Z12.l3 n v.1.2.2.1 v.1.2.2.2.1 v.2.1.2.1 v.1.2.2.2.2.1 v.2.1.1 (fun y0 y1 => K (.exit 0) ⟨[(2, .c (.pbox 2 0)), (3, .c (.pbox 3 0))], [(288, ⟨84, .prod (.int .i64) Y7, y0, 99, none⟩), (1000064, ⟨84, .prod (.int .i64) Y7, y1, 99, none⟩)], [(2, ⟨59, [.own 1000064], false, false⟩), (3, ⟨59, [.own 288], false, false⟩)], [], []⟩)
theorem Z12.l3_ok : LT X0 58 3 Z12.l3.s Z12.l3.u :=
 lt hX Try.f58 (by kernel_rfl) (fun _ _ h => h) (D86 hX) nL (fun n v K => by kernel_rfl)
theorem qPj : CT X0 58 Z12.a Z12.u :=
 ct hX Try.f58 (by kernel_rfl) (fun _ _ h => h) (D86 hX) (oL (Z12.l3_ok hX) nL) (fun n v K => by kernel_rfl)
def D87 : CS X0 := oC (qPj hX) (D86 hX)
abbrev Z9.a : List TS := [.c (.o (.dat 61 Y3))]
def Z9.u (n : Nat) (v : VA Z9.a) (K : RES -> Prop) : Prop := Z9.c n v.1 (fun r0 => K ⟨.c (.row ⟨61, .prod (.int .i64) Y4, r0, 99, none⟩), []⟩)
abbrev Z9.l3.s : ST := ⟨[(3, .c (.o (.own 256))), (9, .c (.o (.dat 61 Y3))), (10, .c (.o (.int .i64))), (11, .c (.o (.int .i64)))], [⟨256, 61, .prod (.int .i64) Y4, 99⟩], [], [], []⟩
def Z9.l3.u (n : Nat) (v : Z9.l3.s.V) (K : X -> St -> Prop) : Prop := Z9.l3 n v.1.2.1 v.1.2.2.1 v.1.2.2.2.1 v.2.1.1 (fun y0 => K (.exit 0) ⟨[(3, .c (.own 256))], [(256, ⟨61, .prod (.int .i64) Y4, y0, 99, none⟩)], [], [], []⟩)
theorem Z9.l3_ok : LT X0 44 3 Z9.l3.s Z9.l3.u :=
 lt hX Try.f44 (by kernel_rfl) (fun _ _ h => h) (D87 hX) nL (fun n v K => by kernel_rfl)
theorem qPG : CT X0 44 Z9.a Z9.u :=
 ct hX Try.f44 (by kernel_rfl) (fun _ _ h => h) (D87 hX) (oL (Z9.l3_ok hX) nL) (fun n v K => by kernel_rfl)
def D88 : CS X0 := oC (qPG hX) (D87 hX)
abbrev Z11.a : List TS := [.a [.o (.dat 34 Y13), .o (.dat 52 Y2), .o (.int .i64)]]
def Z11.u (n : Nat) (v : VA Z11.a) (K : RES -> Prop) : Prop := Z11.c n v.1.1 v.1.2.1 v.1.2.2.1 (fun r0 r1 r2 => K ⟨.agg [.row ⟨34, .prod .str (.int .i64), r0, 99, none⟩, .row ⟨52, .prod (.int .i64) (.sl 61 Y3), r1, 99, none⟩, .int .i64 r2], []⟩)
abbrev Z11.l3.s : ST := ⟨[(2, .c (.o (.pbox 2 0))), (3, .c (.o (.pbox 3 0))), (17, .c (.o (.dat 52 Y2))), (18, .c (.o (.int .i64))), (19, .c (.o (.int .i64)))], [⟨256, 34, .prod .str (.int .i64), 99⟩, ⟨384, 52, .prod (.int .i64) (.sl 61 Y3), 99⟩, ⟨1000064, 34, .prod .str (.int .i64), 99⟩, ⟨1000065, 52, .prod (.int .i64) (.sl 61 Y3), 99⟩], [⟨2, 27, [.o (.own 1000064), .o (.own 1000065), .o (.int .i64)], false, false⟩, ⟨3, 27, [.o (.own 256), .o (.own 384), .o (.int .i64)], false, false⟩], [], []⟩
def Z11.l3.u (n : Nat) (v : Z11.l3.s.V) (K : X -> St -> Prop) : Prop := Z11.l3 n v.1.2.2.1 v.1.2.2.2.1 v.2.1.1 v.2.1.2.2.1 v.2.1.2.2.2.1 v.2.2.1.2.2.1 v.2.2.2.1.2.2.1 v.1.2.2.2.2.1 v.2.1.2.1 (fun y0 y1 y2 y3 y4 y5 => K (.exit 0) ⟨[(2, .c (.pbox 2 0)), (3, .c (.pbox 3 0))], [(256, ⟨34, .prod .str (.int .i64), y0, 99, none⟩), (384, ⟨52, .prod (.int .i64) (.sl 61 Y3), y1, 99, none⟩), (1000064, ⟨34, .prod .str (.int .i64), y2, 99, none⟩), (1000065, ⟨52, .prod (.int .i64) (.sl 61 Y3), y3, 99, none⟩)], [(2, ⟨27, [.own 1000064, .own 1000065, .int .i64 y4], false, false⟩), (3, ⟨27, [.own 256, .own 384, .int .i64 y5], false, false⟩)], [], []⟩)
abbrev Z11.q2.s : ST := ⟨[(1, .c (.o (.pbox 1 0))), (2, .c (.o (.pbox 2 0))), (3, .c (.o (.pbox 3 0)))], [⟨256, 34, .prod .str (.int .i64), 99⟩, ⟨384, 52, .prod (.int .i64) (.sl 61 Y3), 99⟩, ⟨1000064, 34, .prod .str (.int .i64), 99⟩, ⟨1000065, 52, .prod (.int .i64) (.sl 61 Y3), 99⟩], [⟨1, 27, [.o (.dat 34 Y13), .o (.dat 52 Y2), .o (.int .i64)], false, false⟩, ⟨2, 27, [.o (.own 1000064), .o (.own 1000065), .o (.int .i64)], false, false⟩, ⟨3, 27, [.o (.own 256), .o (.own 384), .o (.int .i64)], false, false⟩], [], []⟩
def Z11.q2.u (n : Nat) (v : Z11.q2.s.V) (K : X -> St -> Prop) : Prop := Z11.q2 n v.2.1.1 v.2.1.2.1 v.2.1.2.2.1 v.2.1.2.2.2.1 v.2.2.1.1 v.2.2.1.2.1 v.2.2.1.2.2.1 v.2.2.2.1.2.2.1 v.2.2.2.2.1.2.2.1 (fun y0 y1 y2 => K .ret ⟨[(2, .c (.pbox 2 0))], [(256, ⟨34, .prod .str (.int .i64), y0, 99, none⟩), (384, ⟨52, .prod (.int .i64) (.sl 61 Y3), y1, 99, none⟩)], [(2, ⟨27, [.own 256, .own 384, .int .i64 y2], false, false⟩)], [], []⟩)
theorem Z11.l3_ok : LT X0 21 3 Z11.l3.s Z11.l3.u :=
 lt hX Try.f21 (by kernel_rfl) (fun _ _ h => h) (D88 hX) nL (fun n v K => by kernel_rfl)
theorem Z11.q2_ok : LT X0 21 1000002 Z11.q2.s Z11.q2.u :=
 cu hX Try.f21 (by kernel_rfl) (fun _ _ h => h) (D88 hX) (oL (Z11.l3_ok hX) nL) (fun n v K => by kernel_rfl)
theorem qPk : CT X0 21 Z11.a Z11.u :=
 ct hX Try.f21 (by kernel_rfl) (fun _ _ h => h) (D88 hX) (oL (Z11.q2_ok hX) nL) (fun n v K => by kernel_rfl)
def D89 : CS X0 := oC (qPk hX) (D88 hX)
abbrev Z18.a : List TS := [.c (.o (.dat 34 Y13))]
def Z18.u (n : Nat) (v : VA Z18.a) (K : RES -> Prop) : Prop := Z18.c n v.1 (fun r0 => K ⟨.c (.int .i64 r0), []⟩)
abbrev Z18.l3.s : ST := ⟨[(3, .c (.o (.int .i64))), (6, .c (.o (.dat 34 Y13))), (7, .c (.o (.int .i64))), (8, .c (.o (.int .i64)))], [], [], [], []⟩
def Z18.l3.u (n : Nat) (v : Z18.l3.s.V) (K : X -> St -> Prop) : Prop := Z18.l3 n v.1.2.1 v.1.2.2.1 v.1.1 v.1.2.2.2.1 (fun y0 => K (.exit 0) ⟨[(3, .c (.int .i64 y0))], [], [], [], []⟩)
theorem Z18.l3_ok : LT X0 25 3 Z18.l3.s Z18.l3.u :=
 lt hX Try.f25 (by kernel_rfl) (fun _ _ h => h) (D89 hX) nL (fun n v K => by kernel_rfl)
theorem qPd : CT X0 25 Z18.a Z18.u :=
 ct hX Try.f25 (by kernel_rfl) (fun _ _ h => h) (D89 hX) (oL (Z18.l3_ok hX) nL) (fun n v K => by kernel_rfl)
def D90 : CS X0 := oC (qPd hX) (D89 hX)
abbrev Z1.a : List TS := [.a [.o (.dat 34 Y13), .o (.dat 52 Y2), .o (.int .i64)], .c (.o .str), .c (.o (.int .i64))]
def Z1.u (n : Nat) (v : VA Z1.a) (K : RES -> Prop) : Prop := Z1.c n v.1.1 v.1.2.1 v.1.2.2.1 v.2.1 v.2.2.1 (fun r0 r1 r2 r3 => K ⟨.tup [.agg [.row ⟨34, .prod .str (.int .i64), r0, 99, none⟩, .row ⟨52, .prod (.int .i64) (.sl 61 Y3), r1, 99, none⟩, .int .i64 r2], .c (.int .i64 r3)], []⟩)
theorem qPO : CT X0 7 Z1.a Z1.u :=
 ct hX Try.f7 (by kernel_rfl) (fun _ _ h => h) (D90 hX) nL (fun n v K => by kernel_rfl)
def D91 : CS X0 := oC (qPO hX) (D90 hX)
abbrev Z23.a : List TS := [.a [.o (.int .i64), .o (.dat 91 (.int .u64))], .a [.o (.int .i64), .o (.dat 91 (.int .u64))]]
def Z23.u (n : Nat) (v : VA Z23.a) (K : RES -> Prop) : Prop := Z23.c n v.1.1 v.1.2.1 v.2.1.1 v.2.1.2.1 (fun r0 => K ⟨.c (.bool r0), []⟩)
abbrev Z23.l4.s : ST := ⟨[(2, .c (.o (.pbox 2 0))), (3, .c (.o (.pbox 3 0))), (5, .c (.o (.int .i64)))], [], [⟨2, 82, [.o (.int .i64), .o (.dat 91 (.int .u64))], false, false⟩, ⟨3, 82, [.o (.int .i64), .o (.dat 91 (.int .u64))], false, false⟩], [], []⟩
def Z23.l4.u (n : Nat) (v : Z23.l4.s.V) (K : X -> St -> Prop) : Prop := Z23.l4 n v.2.2.1.1 v.2.2.1.2.1 v.2.2.2.1.1 v.2.2.2.1.2.1 v.1.2.2.1 (K (.exit 0) ⟨[], [], [], [], []⟩) (fun y0 => K .ret ⟨[(4, .c (.bool y0))], [], [], [], []⟩)
theorem Z23.l4_ok : LT X0 59 4 Z23.l4.s Z23.l4.u :=
 lt hX Try.f59 (by kernel_rfl) (fun _ _ h => h) (D91 hX) nL (fun n v K => by kernel_rfl)
theorem qO8 : CT X0 59 Z23.a Z23.u :=
 ct hX Try.f59 (by kernel_rfl) (fun _ _ h => h) (D91 hX) (oL (Z23.l4_ok hX) nL) (fun n v K => by kernel_rfl)
def D92 : CS X0 := oC (qO8 hX) (D91 hX)
abbrev Z24.a : List TS := [.c (.o (.dat 2 (.int .i64))), .c (.o (.dat 2 (.int .i64)))]
def Z24.u (n : Nat) (v : VA Z24.a) (K : RES -> Prop) : Prop := Z24.c n v.1 v.2.1 (fun r0 => K ⟨.c (.bool r0), []⟩)
abbrev Z24.l4.s : ST := ⟨[(0, .c (.o (.dat 2 (.int .i64)))), (1, .c (.o (.dat 2 (.int .i64)))), (5, .c (.o (.int .i64)))], [], [], [], []⟩
def Z24.l4.u (n : Nat) (v : Z24.l4.s.V) (K : X -> St -> Prop) : Prop := Z24.l4 n v.1.1 v.1.2.1 v.1.2.2.1 (K (.exit 0) ⟨[], [], [], [], []⟩) (fun y0 => K .ret ⟨[(4, .c (.bool y0))], [], [], [], []⟩)
theorem Z24.l4_ok : LT X0 60 4 Z24.l4.s Z24.l4.u :=
 lt hX Try.f60 (by kernel_rfl) (fun _ _ h => h) (D92 hX) nL (fun n v K => by kernel_rfl)
theorem qO7 : CT X0 60 Z24.a Z24.u :=
 ct hX Try.f60 (by kernel_rfl) (fun _ _ h => h) (D92 hX) (oL (Z24.l4_ok hX) nL) (fun n v K => by kernel_rfl)
def D93 : CS X0 := oC (qO7 hX) (D92 hX)
abbrev Z26.a : List TS := [.a [.o (.dat 84 Y6)], .a [.o (.dat 84 Y6)]]
def Z26.u (n : Nat) (v : VA Z26.a) (K : RES -> Prop) : Prop := Z26.c n v.1.1 v.2.1.1 (fun r0 => K ⟨.c (.bool r0), []⟩)
abbrev Z26.l4.s : ST := ⟨[(2, .c (.o (.pbox 2 0))), (3, .c (.o (.pbox 3 0))), (5, .c (.o (.int .i64)))], [], [⟨2, 59, [.o (.dat 84 Y6)], false, false⟩, ⟨3, 59, [.o (.dat 84 Y6)], false, false⟩], [], []⟩
def Z26.l4.u (n : Nat) (v : Z26.l4.s.V) (K : X -> St -> Prop) : Prop := Z26.l4 n v.2.2.1.1 v.2.2.2.1.1 v.1.2.2.1 (K (.exit 0) ⟨[], [], [], [], []⟩) (fun y0 => K .ret ⟨[(4, .c (.bool y0))], [], [], [], []⟩)
theorem Z26.l4_ok : LT X0 47 4 Z26.l4.s Z26.l4.u :=
 lt hX Try.f47 (by kernel_rfl) (fun _ _ h => h) (D93 hX) nL (fun n v K => by kernel_rfl)
theorem qO5 : CT X0 47 Z26.a Z26.u :=
 ct hX Try.f47 (by kernel_rfl) (fun _ _ h => h) (D93 hX) (oL (Z26.l4_ok hX) nL) (fun n v K => by kernel_rfl)
def D94 : CS X0 := oC (qO5 hX) (D93 hX)
abbrev Z25.a : List TS := [.c (.o (.dat 61 Y3)), .c (.o (.dat 61 Y3))]
def Z25.u (n : Nat) (v : VA Z25.a) (K : RES -> Prop) : Prop := Z25.c n v.1 v.2.1 (fun r0 => K ⟨.c (.bool r0), []⟩)
abbrev Z25.l4.s : ST := ⟨[(0, .c (.o (.dat 61 Y3))), (1, .c (.o (.dat 61 Y3))), (5, .c (.o (.int .i64)))], [], [], [], []⟩
def Z25.l4.u (n : Nat) (v : Z25.l4.s.V) (K : X -> St -> Prop) : Prop := Z25.l4 n v.1.1 v.1.2.1 v.1.2.2.1 (K (.exit 0) ⟨[], [], [], [], []⟩) (fun y0 => K .ret ⟨[(4, .c (.bool y0))], [], [], [], []⟩)
theorem Z25.l4_ok : LT X0 26 4 Z25.l4.s Z25.l4.u :=
 lt hX Try.f26 (by kernel_rfl) (fun _ _ h => h) (D94 hX) nL (fun n v K => by kernel_rfl)
theorem qO6 : CT X0 26 Z25.a Z25.u :=
 ct hX Try.f26 (by kernel_rfl) (fun _ _ h => h) (D94 hX) (oL (Z25.l4_ok hX) nL) (fun n v K => by kernel_rfl)
def D95 : CS X0 := oC (qO6 hX) (D94 hX)
abbrev Z27.a : List TS := [.a [.o (.dat 34 Y13), .o (.dat 52 Y2), .o (.int .i64)], .a [.o (.dat 34 Y13), .o (.dat 52 Y2), .o (.int .i64)]]
def Z27.u (n : Nat) (v : VA Z27.a) (K : RES -> Prop) : Prop := Z27.c n v.1.1 v.1.2.1 v.1.2.2.1 v.2.1.1 v.2.1.2.1 v.2.1.2.2.1 (fun r0 => K ⟨.c (.bool r0), []⟩)
abbrev Z27.l4.s : ST := ⟨[(2, .c (.o (.pbox 2 0))), (3, .c (.o (.pbox 3 0))), (5, .c (.o (.int .i64)))], [], [⟨2, 27, [.o (.dat 34 Y13), .o (.dat 52 Y2), .o (.int .i64)], false, false⟩, ⟨3, 27, [.o (.dat 34 Y13), .o (.dat 52 Y2), .o (.int .i64)], false, false⟩], [], []⟩
def Z27.l4.u (n : Nat) (v : Z27.l4.s.V) (K : X -> St -> Prop) : Prop := Z27.l4 n v.2.2.1.1 v.2.2.1.2.1 v.2.2.1.2.2.1 v.2.2.2.1.1 v.2.2.2.1.2.1 v.2.2.2.1.2.2.1 v.1.2.2.1 (fun y0 y1 y2 y3 y4 y5 => K (.exit 0) ⟨[(2, .c (.pbox 2 0)), (3, .c (.pbox 3 0))], [], [(2, ⟨27, [.dat 34 Y13 y0, .dat 52 Y2 y1, .int .i64 y2], false, false⟩), (3, ⟨27, [.dat 34 Y13 y3, .dat 52 Y2 y4, .int .i64 y5], false, false⟩)], [], []⟩) (fun y0 => K .ret ⟨[(4, .c (.bool y0))], [], [], [], []⟩)
abbrev Z27.l9.s : ST := ⟨[(2, .c (.o (.pbox 2 0))), (3, .c (.o (.pbox 3 0))), (6, .c (.o (.int .i64)))], [], [⟨2, 27, [.o (.dat 34 Y13), .o (.dat 52 Y2), .o (.int .i64)], false, false⟩, ⟨3, 27, [.o (.dat 34 Y13), .o (.dat 52 Y2), .o (.int .i64)], false, false⟩], [], []⟩
def Z27.l9.u (n : Nat) (v : Z27.l9.s.V) (K : X -> St -> Prop) : Prop := Z27.l9 n v.2.2.1.1 v.2.2.1.2.1 v.2.2.1.2.2.1 v.2.2.2.1.1 v.2.2.2.1.2.1 v.2.2.2.1.2.2.1 v.1.2.2.1 (K (.exit 2) ⟨[], [], [], [], []⟩) (fun y0 => K .ret ⟨[(4, .c (.bool y0))], [], [], [], []⟩)
theorem Z27.l4_ok : LT X0 8 4 Z27.l4.s Z27.l4.u :=
 lt hX Try.f8 (by kernel_rfl) (fun _ _ h => h) (D95 hX) nL (fun n v K => by kernel_rfl)
theorem Z27.l9_ok : LT X0 8 9 Z27.l9.s Z27.l9.u :=
 lt hX Try.f8 (by kernel_rfl) (fun _ _ h => h) (D95 hX) nL (fun n v K => by kernel_rfl)
theorem qO4 : CT X0 8 Z27.a Z27.u :=
 ct hX Try.f8 (by kernel_rfl) (fun _ _ h => h) (D95 hX) (oL (Z27.l4_ok hX) (oL (Z27.l9_ok hX) nL)) (fun n v K => by kernel_rfl)
def D96 : CS X0 := oC (qO4 hX) (D95 hX)
end
end Go.Vsi
end

section
namespace Go.Vsi
open Go.Proofs
section
variable {X0 : jG} (hX : jG.Mono X0)
include hX
abbrev laws_FnDeclared.a : List TS := [.c (.o (.dat 5 (.int .u8)))]
def laws_FnDeclared.u (n : Nat) (v : VA laws_FnDeclared.a) (K : RES -> Prop) : Prop := laws_FnDeclared.c n v.1 (fun r0 => K ⟨.c (.bool r0), []⟩)
theorem laws_FnDeclared_ok : CT X0 3 laws_FnDeclared.a laws_FnDeclared.u :=
 ct hX Try.f3 (by kernel_rfl) (fun _ _ h => h) (D96 hX) nL (fun n v K => by kernel_rfl)
def D97 : CS X0 := oC (laws_FnDeclared_ok hX) (D96 hX)
end
end Go.Vsi
end
