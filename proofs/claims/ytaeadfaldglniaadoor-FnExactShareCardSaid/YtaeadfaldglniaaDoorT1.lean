/- Each told function is what the machine comes to. No statement is proved here. -/
import Derived.Test.YtaeadfaldglniaaDoorM4
import Derived.Test.YtaeadfaldglniaaDoorA1
import Derived.Shelf.Strconv.Itoa4
import Derived.Shelf.GgClosure.Gives
import Derived.Test.YtaeadfaldglniaaDoorProg
import Derived.KernelRfl
set_option linter.unusedVariables false
set_option linter.unusedSimpArgs false

section
namespace Go.Vsi
abbrev Y5 : Ty := .prod .str (.int .i64)
abbrev Y4 : Ty := .prod (.int .i64) (.sl 94 (.int .u64))
abbrev Y3 : Ty := .prod (.int .i64) (.prod (.int .i64) (.prod .bool (.int .u8)))
abbrev Y2 : Ty := .prod (.int .i64) (.prod (.int .i64) (.prod (.int .i64) (.prod (.int .i64) (.prod (.sl 94 (.int .u64)) (.sl 2 (.int .i64))))))
abbrev Y1 : Ty := .prod (.int .i64) Y2
open Go.Proofs
def tu : TI := ⟨false, 1, 8, [.undef], none, none, [], [], none⟩
def tis : List (Nat × TI) := [
(1, tu),
(2, ⟨false, 1, 8, [.int .i64 0], some (.int .i64), none, [], [], none⟩),
(3, ⟨false, 1, 8, [.int .i64 0], some (.int .i64), none, [], [], none⟩),
(4, ⟨false, 1, 1, [.bool false], some (.bool), none, [], [], none⟩),
(5, ⟨false, 1, 1, [.int .u8 0], some (.int .u8), none, [], [], none⟩),
(6, ⟨false, 1, 1, [.int .u8 0], some (.int .u8), none, [], [], none⟩),
(7, ⟨true, 4, 24, [.int .i64 0, .int .i64 0, .bool false, .int .u8 0], some Y3, none, [(0, 2), (1, 3), (2, 4), (3, 6)], [], none⟩),
(8, ⟨true, 4, 24, [.int .i64 0, .int .i64 0, .bool false, .int .u8 0], some Y3, none, [(0, 2), (1, 3), (2, 4), (3, 6)], [], none⟩),
(9, ⟨false, 1, 16, [.str []], some (.str), none, [], [], none⟩),
(10, ⟨false, 1, 16, [.str []], some (.str), none, [], [], none⟩),
(11, ⟨false, 1, 16, [.str []], some (.str), none, [], [], none⟩),
(12, ⟨false, 1, 8, [.int .u64 0], some (.int .u64), none, [], [], none⟩),
(13, ⟨true, 2, 24, [.str [], .int .u64 0], some (.prod .str (.int .u64)), none, [(0, 9), (1, 12)], [], none⟩),
(14, ⟨true, 2, 24, [.str [], .int .u64 0], some (.prod .str (.int .u64)), none, [(0, 9), (1, 12)], [], none⟩),
(15, tu),
(16, tu),
(17, tu),
(18, ⟨true, 1, 8, [.undef], none, none, [(0, 17)], [], none⟩),
(19, ⟨true, 1, 8, [.undef], none, none, [(0, 17)], [], none⟩),
(20, ⟨false, 1, 16, [.undef], none, none, [], [], none⟩),
(21, ⟨false, 1, 4, [.int .i32 0], some (.int .i32), none, [], [], none⟩),
(22, ⟨false, 1, 24, [.emp 42 Y5], some (.sl 42 Y5), some 42, [], [], none⟩),
(23, ⟨false, 1, 24, [.emp 61 Y1], some (.sl 61 Y1), some 61, [], [], none⟩),
(24, ⟨true, 1, 24, [.emp 61 Y1], some (.sl 61 Y1), none, [(0, 23)], [], none⟩),
(25, ⟨true, 1, 24, [.emp 61 Y1], some (.sl 61 Y1), none, [(0, 23)], [], none⟩),
(26, tu),
(27, tu),
(28, ⟨false, 1, 24, [.emp 65 Y1], some (.sl 65 Y1), some 65, [], [], none⟩),
(29, ⟨true, 1, 24, [.emp 65 Y1], some (.sl 65 Y1), none, [(0, 28)], [], none⟩),
(30, ⟨true, 1, 24, [.emp 65 Y1], some (.sl 65 Y1), none, [(0, 28)], [], none⟩),
(31, tu),
(32, ⟨false, 1, 24, [.emp 48 Y5], some (.sl 48 Y5), some 48, [], [], none⟩),
(33, tu),
(34, tu),
(35, tu),
(36, tu),
(37, tu),
(38, tu),
(39, tu),
(40, tu),
(41, ⟨true, 2, 24, [.str [], .int .i64 0], some Y5, none, [(0, 9), (1, 2)], [], none⟩),
(42, ⟨true, 2, 24, [.str [], .int .i64 0], some Y5, none, [(0, 9), (1, 2)], [.str, .int .i64], none⟩),
(43, tu),
(44, tu),
(45, ⟨false, 1, 24, [.emp 2 (.int .i64)], some (.sl 2 (.int .i64)), some 2, [], [], none⟩),
(47, tu),
(48, ⟨true, 2, 24, [.str [], .int .i64 0], some Y5, none, [(0, 9), (1, 2)], [.str, .int .i64], none⟩),
(49, tu),
(50, tu),
(51, tu),
(52, tu),
(53, tu),
(54, tu),
(55, tu),
(56, tu),
(57, ⟨false, 1, 24, [.emp 94 (.int .u64)], some (.sl 94 (.int .u64)), some 94, [], [], none⟩),
(58, ⟨true, 2, 32, [.int .i64 0, .emp 94 (.int .u64)], some Y4, none, [(0, 2), (1, 57)], [], none⟩),
(59, ⟨true, 2, 32, [.int .i64 0, .emp 94 (.int .u64)], some Y4, none, [(0, 2), (1, 57)], [], none⟩),
(60, ⟨true, 7, 88, [.int .i64 0, .int .i64 0, .int .i64 0, .int .i64 0, .int .i64 0, .emp 94 (.int .u64), .emp 2 (.int .i64)], some Y1, none, [(0, 2), (1, 2), (2, 2), (3, 2), (4, 59), (6, 45)], [], none⟩),
(61, ⟨true, 7, 88, [.int .i64 0, .int .i64 0, .int .i64 0, .int .i64 0, .int .i64 0, .emp 94 (.int .u64), .emp 2 (.int .i64)], some Y1, none, [(0, 2), (1, 2), (2, 2), (3, 2), (4, 59), (6, 45)], [], none⟩),
(62, tu),
(63, ⟨true, 2, 32, [.int .i64 0, .emp 94 (.int .u64)], some Y4, none, [(0, 2), (1, 57)], [], none⟩),
(64, ⟨true, 7, 88, [.int .i64 0, .int .i64 0, .int .i64 0, .int .i64 0, .int .i64 0, .emp 94 (.int .u64), .emp 2 (.int .i64)], some Y1, none, [(0, 2), (1, 2), (2, 2), (3, 2), (4, 63), (6, 45)], [], none⟩),
(65, ⟨true, 7, 88, [.int .i64 0, .int .i64 0, .int .i64 0, .int .i64 0, .int .i64 0, .emp 94 (.int .u64), .emp 2 (.int .i64)], some Y1, none, [(0, 2), (1, 2), (2, 2), (3, 2), (4, 63), (6, 45)], [], none⟩),
(66, tu),
(67, tu),
(68, tu),
(69, tu),
(70, tu),
(71, tu),
(72, tu),
(73, tu),
(74, ⟨false, 1, 24, [.emp 5 (.int .u8)], some (.sl 5 (.int .u8)), some 5, [], [], none⟩),
(75, tu),
(76, tu),
(77, tu),
(78, ⟨false, 1, 24, [.emp 4 .bool], some (.sl 4 .bool), some 4, [], [], none⟩),
(79, tu),
(80, tu),
(81, tu),
(82, tu),
(83, tu),
(84, tu),
(85, tu),
(86, tu),
(88, tu),
(89, ⟨false, 1, 8, [.undef], none, none, [], [], some (9, 2)⟩),
(90, ⟨true, 2, 32, [.emp 65 Y1, .undef], none, none, [(0, 28), (1, 89)], [], none⟩),
(91, ⟨true, 2, 32, [.emp 65 Y1, .undef], none, none, [(0, 28), (1, 89)], [], none⟩),
(92, tu),
(93, tu),
(94, ⟨false, 1, 8, [.int .u64 0], some (.int .u64), none, [], [], none⟩),
(95, tu),
(96, tu),
(97, tu),
(98, tu),
(99, tu),
(100, tu),
(101, tu),
(102, tu),
(103, tu),
(104, tu),
(106, tu),
(107, tu),
(108, tu),
(109, tu),
(110, tu),
(111, tu),
(112, tu),
(113, ⟨false, 1, 8, [.int .u64 0], some (.int .u64), none, [], [], none⟩),
(114, tu),
(115, ⟨true, 24, 24, [.int .u8 0, .int .u8 0, .int .u8 0, .int .u8 0, .int .u8 0, .int .u8 0, .int .u8 0, .int .u8 0, .int .u8 0, .int .u8 0, .int .u8 0, .int .u8 0, .int .u8 0, .int .u8 0, .int .u8 0, .int .u8 0, .int .u8 0, .int .u8 0, .int .u8 0, .int .u8 0, .int .u8 0, .int .u8 0, .int .u8 0, .int .u8 0], none, none, [], [], none⟩),
(116, tu),
(117, tu),
(119, tu),
(120, tu),
(121, tu),
(122, ⟨true, 20, 160, [.int .u64 0, .int .u64 0, .int .u64 0, .int .u64 0, .int .u64 0, .int .u64 0, .int .u64 0, .int .u64 0, .int .u64 0, .int .u64 0, .int .u64 0, .int .u64 0, .int .u64 0, .int .u64 0, .int .u64 0, .int .u64 0, .int .u64 0, .int .u64 0, .int .u64 0, .int .u64 0], none, none, [], [], none⟩),
(123, ⟨false, 1, 4, [.int .u32 0], some (.int .u32), none, [], [], none⟩),
(124, ⟨true, 65, 65, [.int .u8 0, .int .u8 0, .int .u8 0, .int .u8 0, .int .u8 0, .int .u8 0, .int .u8 0, .int .u8 0, .int .u8 0, .int .u8 0, .int .u8 0, .int .u8 0, .int .u8 0, .int .u8 0, .int .u8 0, .int .u8 0, .int .u8 0, .int .u8 0, .int .u8 0, .int .u8 0, .int .u8 0, .int .u8 0, .int .u8 0, .int .u8 0, .int .u8 0, .int .u8 0, .int .u8 0, .int .u8 0, .int .u8 0, .int .u8 0, .int .u8 0, .int .u8 0, .int .u8 0, .int .u8 0, .int .u8 0, .int .u8 0, .int .u8 0, .int .u8 0, .int .u8 0, .int .u8 0, .int .u8 0, .int .u8 0, .int .u8 0, .int .u8 0, .int .u8 0, .int .u8 0, .int .u8 0, .int .u8 0, .int .u8 0, .int .u8 0, .int .u8 0, .int .u8 0, .int .u8 0, .int .u8 0, .int .u8 0, .int .u8 0, .int .u8 0, .int .u8 0, .int .u8 0, .int .u8 0, .int .u8 0, .int .u8 0, .int .u8 0, .int .u8 0, .int .u8 0], none, none, [], [], none⟩),
(125, tu),
(126, tu),
(127, tu),
(128, ⟨true, 32, 32, [.int .u8 0, .int .u8 0, .int .u8 0, .int .u8 0, .int .u8 0, .int .u8 0, .int .u8 0, .int .u8 0, .int .u8 0, .int .u8 0, .int .u8 0, .int .u8 0, .int .u8 0, .int .u8 0, .int .u8 0, .int .u8 0, .int .u8 0, .int .u8 0, .int .u8 0, .int .u8 0, .int .u8 0, .int .u8 0, .int .u8 0, .int .u8 0, .int .u8 0, .int .u8 0, .int .u8 0, .int .u8 0, .int .u8 0, .int .u8 0, .int .u8 0, .int .u8 0], none, none, [], [], none⟩),
(129, ⟨true, 64, 64, [.int .u8 0, .int .u8 0, .int .u8 0, .int .u8 0, .int .u8 0, .int .u8 0, .int .u8 0, .int .u8 0, .int .u8 0, .int .u8 0, .int .u8 0, .int .u8 0, .int .u8 0, .int .u8 0, .int .u8 0, .int .u8 0, .int .u8 0, .int .u8 0, .int .u8 0, .int .u8 0, .int .u8 0, .int .u8 0, .int .u8 0, .int .u8 0, .int .u8 0, .int .u8 0, .int .u8 0, .int .u8 0, .int .u8 0, .int .u8 0, .int .u8 0, .int .u8 0, .int .u8 0, .int .u8 0, .int .u8 0, .int .u8 0, .int .u8 0, .int .u8 0, .int .u8 0, .int .u8 0, .int .u8 0, .int .u8 0, .int .u8 0, .int .u8 0, .int .u8 0, .int .u8 0, .int .u8 0, .int .u8 0, .int .u8 0, .int .u8 0, .int .u8 0, .int .u8 0, .int .u8 0, .int .u8 0, .int .u8 0, .int .u8 0, .int .u8 0, .int .u8 0, .int .u8 0, .int .u8 0, .int .u8 0, .int .u8 0, .int .u8 0, .int .u8 0], none, none, [], [], none⟩),
(130, ⟨true, 4, 40, [.undef, .undef, .undef, .undef], none, none, [(0, 17), (1, 17), (2, 17), (3, 9)], [], none⟩),
(131, ⟨true, 4, 40, [.undef, .undef, .undef, .undef], none, none, [(0, 17), (1, 17), (2, 17), (3, 9)], [], none⟩),
(132, ⟨true, 0, 0, [], none, none, [], [], none⟩),
(133, ⟨true, 0, 0, [], none, none, [(0, 132)], [], none⟩),
(134, ⟨true, 0, 0, [], none, none, [(0, 132)], [], none⟩),
(135, tu),
(136, ⟨false, 1, 1, [.int .u8 0], some (.int .u8), none, [], [], none⟩),
(137, ⟨false, 1, 1, [.int .u8 0], some (.int .u8), none, [], [], none⟩),
(138, tu),
(139, tu),
(140, ⟨false, 1, 4, [.int .i32 0], some (.int .i32), none, [], [], none⟩),
(141, ⟨false, 1, 4, [.int .i32 0], some (.int .i32), none, [], [], none⟩),
(142, ⟨true, 11, 48, [.undef, .undef, .undef, .undef, .undef, .undef, .undef, .undef, .undef, .undef, .undef], none, none, [(0, 12), (1, 12), (2, 123), (3, 136), (4, 5), (5, 5), (6, 137), (7, 138), (8, 139), (9, 140), (10, 141)], [], none⟩),
(143, ⟨true, 11, 48, [.undef, .undef, .undef, .undef, .undef, .undef, .undef, .undef, .undef, .undef, .undef], none, none, [(0, 12), (1, 12), (2, 123), (3, 136), (4, 5), (5, 5), (6, 137), (7, 138), (8, 139), (9, 140), (10, 141)], [], none⟩),
(144, tu),
(145, tu)]
noncomputable def fns : List (Nat × Func) := [(3, Tryd.f3), (4, Tryd.f4), (5, Tryd.f5), (6, Tryd.f6), (7, Tryd.f7), (8, Tryd.f8), (9, Tryd.f9), (10, Tryd.f10), (11, Tryd.f11), (12, Tryd.f12), (13, Tryd.f13), (14, Tryd.f14), (15, Tryd.f15), (16, Tryd.f16), (17, Tryd.f17), (18, Tryd.f18), (19, Tryd.f19), (20, Tryd.f20), (21, Tryd.f21), (22, Tryd.f22), (23, Tryd.f23), (24, Tryd.f24), (25, Tryd.f25), (26, Tryd.f26), (27, Tryd.f27), (28, Tryd.f28), (29, Tryd.f29), (30, Tryd.f30), (31, Tryd.f31), (32, Tryd.f32), (33, Tryd.f33), (34, Tryd.f34), (35, Tryd.f35), (36, Tryd.f36), (37, Tryd.f37), (38, Tryd.f38), (39, Tryd.f39), (40, Tryd.f40), (41, Tryd.f41), (42, Tryd.f42), (43, Tryd.f43), (44, Tryd.f44), (45, Tryd.f45), (46, Tryd.f46), (47, Tryd.f47), (48, Tryd.f48), (49, Tryd.f49), (50, Tryd.f50), (51, Tryd.f51), (52, Tryd.f52), (53, Tryd.f53), (54, Tryd.f54), (55, Tryd.f55), (56, Tryd.f56), (57, Tryd.f57), (58, Tryd.f58), (59, Tryd.f59), (60, Tryd.f60), (61, Tryd.f61), (62, Tryd.f62), (63, Tryd.f63), (64, Tryd.f64), (65, Tryd.f65), (66, Tryd.f66), (67, Tryd.f67), (68, Tryd.f68), (69, Tryd.f69), (70, Tryd.f70), (71, Tryd.f71), (72, Tryd.f72), (73, Tryd.f73), (74, Tryd.f74), (75, Tryd.f75), (76, Tryd.f76), (78, Tryd.f78), (79, Tryd.f79), (80, Tryd.f80), (81, Tryd.f81), (83, Tryd.f83)]
def fis : List (Nat × Fi) := [
(3, ⟨[], [], [(1000009, ⟨⟨[0, 3, 6], []⟩, [(1000000, ⟨[4], []⟩)], ⟨[4], []⟩⟩)]⟩),
(4, ⟨[], [], [(5, ⟨⟨[0, 1, 5], []⟩, [(0, ⟨[1], []⟩)], ⟨[4], []⟩⟩)]⟩),
(7, ⟨[], [], [(3, ⟨⟨[0, 3, 4], []⟩, [(0, ⟨[3], []⟩)], ⟨[2], []⟩⟩)]⟩),
(11, ⟨[], [], [(4, ⟨⟨[0, 1, 5], []⟩, [(0, ⟨[], []⟩)], ⟨[4], []⟩⟩)]⟩),
(12, ⟨[1], [], [(2, ⟨⟨[0, 1, 5], []⟩, [(0, ⟨[1], []⟩)], ⟨[4], []⟩⟩)]⟩),
(13, ⟨[1], [], []⟩),
(16, ⟨[], [], [(5, ⟨⟨[0, 1, 5], []⟩, [(0, ⟨[1], []⟩)], ⟨[4], []⟩⟩)]⟩),
(18, ⟨[], [], [(4, ⟨⟨[0, 2, 4, 5, 6], [(5, 0, .own 99), (1000004, 0, .own 99)]⟩, [(0, ⟨[2, 4, 5], []⟩)], ⟨[2, 3], []⟩⟩), (8, ⟨⟨[0, 2, 4, 5, 6, 7, 8], []⟩, [(2, ⟨[0, 2, 4, 5, 6, 7], []⟩)], ⟨[2, 3], []⟩⟩), (13, ⟨⟨[0, 2, 4, 5, 6, 7, 9, 10], []⟩, [(4, ⟨[0, 2, 4, 5, 6, 7, 9], []⟩)], ⟨[2, 3], []⟩⟩)]⟩),
(20, ⟨[], [], [(3, ⟨⟨[0, 3, 4], []⟩, [(0, ⟨[3], []⟩)], ⟨[2], []⟩⟩)]⟩),
(23, ⟨[], [], [(4, ⟨⟨[0, 1, 5], []⟩, [(0, ⟨[], []⟩)], ⟨[4], []⟩⟩)]⟩),
(25, ⟨[], [], [(4, ⟨⟨[0, 3], []⟩, [(0, ⟨[3], []⟩)], ⟨[2], []⟩⟩)]⟩),
(26, ⟨[1], [], [(2, ⟨⟨[0, 1, 5], []⟩, [(0, ⟨[1], []⟩)], ⟨[4], []⟩⟩)]⟩),
(27, ⟨[], [], [(2, ⟨⟨[0, 1, 5], []⟩, [(0, ⟨[1], []⟩)], ⟨[4], []⟩⟩)]⟩),
(29, ⟨[], [], [(7, ⟨⟨[0, 3, 5, 6, 7, 8], [(6, 0, .own 99)]⟩, [(0, ⟨[5, 6, 7], []⟩)], ⟨[4], []⟩⟩), (16, ⟨⟨[0, 3, 5, 6, 7, 8, 10], []⟩, [(2, ⟨[0, 3, 5, 6, 7, 8], []⟩)], ⟨[4], []⟩⟩), (20, ⟨⟨[5, 6, 7, 11], []⟩, [(4, ⟨[6], []⟩)], ⟨[4], []⟩⟩)]⟩),
(31, ⟨[], [], [(4, ⟨⟨[2, 3, 5], []⟩, [(0, ⟨[], []⟩)], ⟨[4], []⟩⟩)]⟩),
(33, ⟨[], [], [(5, ⟨⟨[0, 3, 9, 10, 11], []⟩, [(0, ⟨[3], []⟩)], ⟨[2], []⟩⟩)]⟩),
(36, ⟨[1], [], [(3, ⟨⟨[0, 2, 3, 9, 20, 21, 22], []⟩, [(0, ⟨[9], []⟩)], ⟨[8], []⟩⟩), (9, ⟨⟨[0, 2, 3, 9, 10, 11, 12, 20, 21, 22, 45, 46, 47], []⟩, [(2, ⟨[0, 2, 3, 9, 10, 11, 12, 20, 21, 22], []⟩)], ⟨[8], []⟩⟩)]⟩),
(37, ⟨[5], [], [(4, ⟨⟨[0, 4, 5, 6], []⟩, [(0, ⟨[0, 4, 5], []⟩)], ⟨[4], []⟩⟩), (8, ⟨⟨[0, 4, 5, 6, 40, 41, 42], []⟩, [(2, ⟨[0, 4, 5, 6], []⟩)], ⟨[4], []⟩⟩), (15, ⟨⟨[4, 5, 9, 10, 60, 61, 62], [(60, 0, .fz), (1000010, 0, .own 99)]⟩, [(4, ⟨[4, 10], []⟩)], ⟨[4], []⟩⟩), (20, ⟨⟨[4, 5, 9, 10, 12, 60, 61, 62, 79, 80, 81], []⟩, [(6, ⟨[4, 5, 9, 10, 12, 60, 61, 62], []⟩)], ⟨[4], []⟩⟩)]⟩),
(39, ⟨[1], [], [(2, ⟨⟨[0, 1, 5], []⟩, [(0, ⟨[1], []⟩)], ⟨[4], []⟩⟩)]⟩),
(40, ⟨[1], [], [(2, ⟨⟨[0, 1, 5], []⟩, [(0, ⟨[1], []⟩)], ⟨[4], []⟩⟩)]⟩),
(41, ⟨[], [], [(2, ⟨⟨[0, 1, 5], []⟩, [(0, ⟨[1], []⟩)], ⟨[4], []⟩⟩)]⟩),
(42, ⟨[], [], [(2, ⟨⟨[0, 1, 5], []⟩, [(0, ⟨[1], []⟩)], ⟨[4], []⟩⟩)]⟩),
(45, ⟨[], [], [(5, ⟨⟨[0, 3, 4], []⟩, [(0, ⟨[3], []⟩)], ⟨[2], []⟩⟩), (10, ⟨⟨[0, 3, 4, 5], []⟩, [(2, ⟨[0, 3, 4], []⟩)], ⟨[2], []⟩⟩)]⟩),
(46, ⟨[], [], [(2, ⟨⟨[0, 2, 4, 7], []⟩, [(0, ⟨[0, 4], []⟩)], ⟨[6], []⟩⟩), (1000007, ⟨⟨[0, 4, 63], []⟩, [(1000000, ⟨[0, 4], []⟩)], ⟨[6], []⟩⟩), (1000008, ⟨⟨[0, 4], []⟩, [(1000000, ⟨[6], []⟩)], ⟨[6], []⟩⟩)]⟩),
(47, ⟨[], [], [(3, ⟨⟨[0, 2, 4, 7, 8], []⟩, [(0, ⟨[0, 4, 7], []⟩)], ⟨[6], []⟩⟩)]⟩),
(49, ⟨[], [], [(4, ⟨⟨[2, 3, 5], []⟩, [(0, ⟨[], []⟩)], ⟨[4], []⟩⟩)]⟩),
(51, ⟨[], [], [(3, ⟨⟨[0, 3, 4], []⟩, [(0, ⟨[3], []⟩)], ⟨[2], []⟩⟩)]⟩),
(52, ⟨[], [], [(4, ⟨⟨[0, 3], []⟩, [(0, ⟨[], []⟩)], ⟨[2], []⟩⟩)]⟩),
(55, ⟨[], [], [(6, ⟨⟨[0, 3, 6, 7, 8, 29, 30], []⟩, [(0, ⟨[6, 7, 8], []⟩)], ⟨[4, 5], []⟩⟩), (13, ⟨⟨[0, 3, 6, 7, 8, 9, 10, 11, 29, 30, 52, 53, 54], []⟩, [(2, ⟨[0, 3, 6, 7, 8, 9, 10, 11, 29, 30], []⟩)], ⟨[4, 5], []⟩⟩)]⟩),
(56, ⟨[1], [], []⟩),
(58, ⟨[], [], [(4, ⟨⟨[0, 1, 5], []⟩, [(0, ⟨[], []⟩)], ⟨[4], []⟩⟩)]⟩),
(60, ⟨[], [], [(4, ⟨⟨[0, 3], []⟩, [(0, ⟨[], []⟩)], ⟨[2], []⟩⟩)]⟩),
(63, ⟨[], [], [(4, ⟨⟨[1, 3], []⟩, [(0, ⟨[], []⟩)], ⟨[2], []⟩⟩)]⟩),
(64, ⟨[], [], [(3, ⟨⟨[0, 3, 4], []⟩, [(0, ⟨[3], []⟩)], ⟨[2], []⟩⟩)]⟩),
(65, ⟨[], [], [(2, ⟨⟨[0, 1, 7, 8], []⟩, [(0, ⟨[], []⟩)], ⟨[4], []⟩⟩)]⟩),
(67, ⟨[], [], [(11, ⟨⟨[8, 80, 81, 82], []⟩, [(1, ⟨[8], []⟩)], ⟨[6], []⟩⟩), (1000005, ⟨⟨[0, 1, 2, 7, 17], []⟩, [(1000000, ⟨[], []⟩)], ⟨[6], []⟩⟩), (1000009, ⟨⟨[0, 2, 7, 69], []⟩, [(1000000, ⟨[], []⟩)], ⟨[6], []⟩⟩), (1000021, ⟨⟨[0, 7, 137], []⟩, [(1000000, ⟨[], []⟩)], ⟨[6], []⟩⟩)]⟩),
(68, ⟨[], [], [(1000002, ⟨⟨[0, 3], []⟩, [(1000000, ⟨[2], []⟩)], ⟨[2], []⟩⟩), (1000003, ⟨⟨[0, 52], []⟩, [(1000000, ⟨[0], []⟩)], ⟨[2], []⟩⟩)]⟩),
(70, ⟨[], [], [(3, ⟨⟨[3, 42, 43, 44], []⟩, [(0, ⟨[3], []⟩)], ⟨[2], []⟩⟩)]⟩),
(72, ⟨[], [], [(4, ⟨⟨[0, 1, 5], []⟩, [(0, ⟨[], []⟩)], ⟨[4], []⟩⟩)]⟩),
(76, ⟨[], [], [(2, ⟨⟨[0, 1, 7, 8], []⟩, [(0, ⟨[], []⟩)], ⟨[4], []⟩⟩)]⟩),
(78, ⟨[], [], [(8, ⟨⟨[1, 3, 5, 6], [(5, 0, .own 99)]⟩, [(0, ⟨[5], []⟩)], ⟨[2], []⟩⟩)]⟩)]
def fiF (f : Nat) : Fi := (qJ f fis).getD ⟨[], [], []⟩
noncomputable def C : Ctx := { ti := fun t => qJ t tis, fs := fun f => qJ f fns, fi := fiF }
def bodyOf (f : Func) : Code := f.body.getD .skip
def qKJ (f : Func) (k : Nat) : Code := (qR k (bodyOf f)).getD .skip
def qMS (f : Func) (k : Nat) : Code := (qW k (bodyOf f)).getD .skip
def qOU (l : List (Nat × Li)) (k : Nat) : Li := (qJ k l).getD ⟨⟨[], []⟩, [], ⟨[], []⟩⟩
theorem qMr : (tis.all fun x => tiB Tryd.prog x.1 x.2) = true := by kernel_rfl
theorem qLQ : (fns.all fun x => fnB (fiF x.1) x.2) = true := by kernel_rfl
theorem fnp (f : Nat) (x : Func) (r : List (Nat × Func)) (h : Tryd.prog.funcs[f]? = some x) (hr : ∀ y ∈ r, Tryd.prog.funcs[y.1]? = some y.2) : ∀ y ∈ (f, x) :: r, Tryd.prog.funcs[y.1]? = some y.2 := List.forall_mem_cons.2 ⟨h, hr⟩
set_option maxRecDepth 100000 in
theorem qKg : ∀ x ∈ fns, Tryd.prog.funcs[x.1]? = some x.2 := (fnp _ _ _ Tryd.func3
(fnp _ _ _ Tryd.func4
(fnp _ _ _ Tryd.func5
(fnp _ _ _ Tryd.func6
(fnp _ _ _ Tryd.func7
(fnp _ _ _ Tryd.func8
(fnp _ _ _ Tryd.func9
(fnp _ _ _ Tryd.func10
(fnp _ _ _ Tryd.func11
(fnp _ _ _ Tryd.func12
(fnp _ _ _ Tryd.func13
(fnp _ _ _ Tryd.func14
(fnp _ _ _ Tryd.func15
(fnp _ _ _ Tryd.func16
(fnp _ _ _ Tryd.func17
(fnp _ _ _ Tryd.func18
(fnp _ _ _ Tryd.func19
(fnp _ _ _ Tryd.func20
(fnp _ _ _ Tryd.func21
(fnp _ _ _ Tryd.func22
(fnp _ _ _ Tryd.func23
(fnp _ _ _ Tryd.func24
(fnp _ _ _ Tryd.func25
(fnp _ _ _ Tryd.func26
(fnp _ _ _ Tryd.func27
(fnp _ _ _ Tryd.func28
(fnp _ _ _ Tryd.func29
(fnp _ _ _ Tryd.func30
(fnp _ _ _ Tryd.func31
(fnp _ _ _ Tryd.func32
(fnp _ _ _ Tryd.func33
(fnp _ _ _ Tryd.func34
(fnp _ _ _ Tryd.func35
(fnp _ _ _ Tryd.func36
(fnp _ _ _ Tryd.func37
(fnp _ _ _ Tryd.func38
(fnp _ _ _ Tryd.func39
(fnp _ _ _ Tryd.func40
(fnp _ _ _ Tryd.func41
(fnp _ _ _ Tryd.func42
(fnp _ _ _ Tryd.func43
(fnp _ _ _ Tryd.func44
(fnp _ _ _ Tryd.func45
(fnp _ _ _ Tryd.func46
(fnp _ _ _ Tryd.func47
(fnp _ _ _ Tryd.func48
(fnp _ _ _ Tryd.func49
(fnp _ _ _ Tryd.func50
(fnp _ _ _ Tryd.func51
(fnp _ _ _ Tryd.func52
(fnp _ _ _ Tryd.func53
(fnp _ _ _ Tryd.func54
(fnp _ _ _ Tryd.func55
(fnp _ _ _ Tryd.func56
(fnp _ _ _ Tryd.func57
(fnp _ _ _ Tryd.func58
(fnp _ _ _ Tryd.func59
(fnp _ _ _ Tryd.func60
(fnp _ _ _ Tryd.func61
(fnp _ _ _ Tryd.func62
(fnp _ _ _ Tryd.func63
(fnp _ _ _ Tryd.func64
(fnp _ _ _ Tryd.func65
(fnp _ _ _ Tryd.func66
(fnp _ _ _ Tryd.func67
(fnp _ _ _ Tryd.func68
(fnp _ _ _ Tryd.func69
(fnp _ _ _ Tryd.func70
(fnp _ _ _ Tryd.func71
(fnp _ _ _ Tryd.func72
(fnp _ _ _ Tryd.func73
(fnp _ _ _ Tryd.func74
(fnp _ _ _ Tryd.func75
(fnp _ _ _ Tryd.func76
(fnp _ _ _ Tryd.func78
(fnp _ _ _ Tryd.func79
(fnp _ _ _ Tryd.func80
(fnp _ _ _ Tryd.func81
(fnp _ _ _ Tryd.func83
(fun _ h => by cases h))))))))))))))))))))))))))))))))))))))))))))))))))))))))))))))))))))))))))))))))
theorem C_ok : jH Tryd.prog C := qMT qMr qKg
theorem C_fns : qFr Tryd.prog C := Go.Vsi.fns_ok qLQ
theorem C_follows : Tryd.prog.follows .mixedOrders = true := by kernel_rfl
def CT (X0 : CallF) (f : Nat) (A : List TS) (u : Nat -> VA A -> (RES -> Prop) -> Prop) : Prop := ∀ n v K, u n v K -> callM C X0 n f (xX A v) K
def LT (X0 : CallF) (f k : Nat) (T : ST) (u : Nat -> T.V -> (X -> St -> Prop) -> Prop) : Prop := ∀ n v K, u n v K -> kV C X0 n f k (T.fill v) K
structure CS (X0 : CallF) where
 c : Nat -> CallF
 ok : ∀ n g a K, c n g a K -> callM C X0 n g a K
structure LS (X0 : CallF) (f : Nat) where
 l : Nat -> kG
 ok : ∀ n k st K, l n k st K -> kV C X0 n f k st K
def nL {X0 : CallF} {f : Nat} : LS X0 f := ⟨fun _ => noL, fun _ => qME⟩
def oL {X0 : CallF} {f k : Nat} {T : ST} {u : Nat -> T.V -> (X -> St -> Prop) -> Prop} (h : LT X0 f k T u) (r : LS X0 f) : LS X0 f := ⟨fun n => orL k T (u n) (r.l n), fun n => qMB (h n) (r.ok n)⟩
def oC {X0 : CallF} {f : Nat} {A : List TS} {u : Nat -> VA A -> (RES -> Prop) -> Prop} (h : CT X0 f A u) (d : CS X0) : CS X0 := ⟨fun n => orC f A (u n) (d.c n), fun n => qMC (h n) (d.ok n)⟩
def D0 {X0 : CallF} (hX : CallF.Mono X0) : CS X0 := ⟨fun _ => noC, fun _ => qMF⟩
theorem ct {X0 : CallF} (hX : CallF.Mono X0) {f : Nat} (fn : Func) {A : List TS} {u : Nat -> VA A -> (RES -> Prop) -> Prop} (e : (C.fs f, fn.body) = (some fn, some (bodyOf fn))) (h0 : ∀ v K, ¬ u 0 v K) (d : CS X0) (l : LS X0 f)
  (he : ∀ n v K, u (n + 1) v K = evC C (d.c n) fn.ntmps (C.fi f) (l.l n) (bodyOf fn) (enter (C.fi f).modes (xX A v)) (qBO C fn (C.fi f) (xX A v) K)) : CT X0 f A u :=
 qJk hX (congrArg Prod.fst e) (congrArg Prod.snd e) h0 d.ok l.ok he
theorem lt {X0 : CallF} (hX : CallF.Mono X0) {f k : Nat} (fn : Func) {T : ST} {u : Nat -> T.V -> (X -> St -> Prop) -> Prop}
  (e : (C.fs f, fn.body, decide (k < 1000000), qR k (bodyOf fn), qJ k (C.fi f).loops) = (some fn, some (bodyOf fn), true, some (qKJ fn k), some (qOU (C.fi f).loops k))) (h0 : ∀ v K, ¬ u 0 v K) (d : CS X0) (l : LS X0 f)
  (he : ∀ n v K, u (n + 1) v K = evC C (d.c n) fn.ntmps (C.fi f) (l.l n) (qKJ fn k) (T.fill v) (qBt (qOU (C.fi f).loops k) (qOZ T fun v' => u n v' K) K)) : LT X0 f k T u :=
 qEN hX (congrArg (·.1) e) (congrArg (·.2.1) e) (of_decide_eq_true (congrArg (·.2.2.1) e)) (congrArg (·.2.2.2.1) e) (congrArg (·.2.2.2.2) e) h0 d.ok l.ok he
theorem cu {X0 : CallF} (hX : CallF.Mono X0) {f k : Nat} (fn : Func) {T : ST} {u : Nat -> T.V -> (X -> St -> Prop) -> Prop}
  (e : (C.fs f, fn.body, decide (1000000 <= k), qW (k - 1000000) (bodyOf fn), qJ k (C.fi f).loops) = (some fn, some (bodyOf fn), true, some (qMS fn (k - 1000000)), some (qOU (C.fi f).loops k))) (h0 : ∀ v K, ¬ u 0 v K) (d : CS X0) (l : LS X0 f)
  (he : ∀ n v K, u (n + 1) v K = evC C (d.c n) fn.ntmps (C.fi f) (l.l n) (qMS fn (k - 1000000)) (T.fill v) (qKV (qOU (C.fi f).loops k) K)) : LT X0 f k T u :=
 qKl hX (congrArg (·.1) e) (congrArg (·.2.1) e) (of_decide_eq_true (congrArg (·.2.2.1) e)) (congrArg (·.2.2.2.1) e) (congrArg (·.2.2.2.2) e) h0 d.ok l.ok he
end Go.Vsi
namespace Go.Proofs
open Go.Shelf
def Tryd.fmtL_ren : Go.Shelf.Ren := ⟨fun | 173 => 77 | 246 => 82 | 283 => 84 | 284 => 85 | 285 => 86 | 286 => 87 | 129 => 89 | 317 => 88 | 318 => 90 | 319 => 91 | 320 => 92 | 337 => 93 | 338 => 94 | n => n, fun | 2 => 2 | 3 => 3 | 9 => 9 | 4 => 4 | 171 => 115 | 0 => 0 | 53 => 94 | 37 => 74 | 5 => 5 | 173 => 118 | 212 => 122 | 51 => 123 | 20 => 20 | 213 => 124 | 46 => 113 | 232 => 128 | 233 => 129 | n => n, fun | 17 => 0 | 18 => 1 | 19 => 2 | n => n⟩
theorem Tryd.fmtL : Go.Proofs.LaysM.n173 Tryd.prog Tryd.fmtL_ren where
 mixed := by kernel_rfl
 f129 := Tryd.func89.trans (congrArg some (by kernel_rfl))
 f173 := Tryd.func77.trans (congrArg some (by kernel_rfl))
 f246 := Tryd.func82.trans (congrArg some (by kernel_rfl))
 f283 := Tryd.func84.trans (congrArg some (by kernel_rfl))
 f284 := Tryd.func85.trans (congrArg some (by kernel_rfl))
 f285 := Tryd.func86.trans (congrArg some (by kernel_rfl))
 f286 := Tryd.func87.trans (congrArg some (by kernel_rfl))
 f317 := Tryd.func88.trans (congrArg some (by kernel_rfl))
 f318 := Tryd.func90.trans (congrArg some (by kernel_rfl))
 f319 := Tryd.func91.trans (congrArg some (by kernel_rfl))
 f320 := Tryd.func92.trans (congrArg some (by kernel_rfl))
 f337 := Tryd.func93.trans (congrArg some (by kernel_rfl))
 f338 := Tryd.func94.trans (congrArg some (by kernel_rfl))
 t0 := Tryd.underlying0
 a0 := Tryd.isAgg0
 z0 := Tryd.sizeOf0
 v0 := Tryd.zeroValue0
 t2 := Tryd.underlying2
 a2 := Tryd.isAgg2
 z2 := Tryd.sizeOf2
 v2 := Tryd.zeroValue2
 t3 := Tryd.underlying3
 a3 := Tryd.isAgg3
 z3 := Tryd.sizeOf3
 v3 := Tryd.zeroValue3
 t4 := Tryd.underlying4
 a4 := Tryd.isAgg4
 z4 := Tryd.sizeOf4
 v4 := Tryd.zeroValue4
 t5 := Tryd.underlying5
 a5 := Tryd.isAgg5
 z5 := Tryd.sizeOf5
 v5 := Tryd.zeroValue5
 t9 := Tryd.underlying9
 a9 := Tryd.isAgg9
 z9 := Tryd.sizeOf9
 v9 := Tryd.zeroValue9
 t20 := Tryd.underlying20
 a20 := Tryd.isAgg20
 z20 := Tryd.sizeOf20
 v20 := Tryd.zeroValue20
 t37 := Tryd.underlying74
 a37 := Tryd.isAgg74
 z37 := Tryd.sizeOf74
 v37 := Tryd.zeroValue74
 t46 := Tryd.underlying113
 a46 := Tryd.isAgg113
 z46 := Tryd.sizeOf113
 v46 := Tryd.zeroValue113
 t51 := Tryd.underlying123
 a51 := Tryd.isAgg123
 z51 := Tryd.sizeOf123
 v51 := Tryd.zeroValue123
 t53 := Tryd.underlying94
 a53 := Tryd.isAgg94
 z53 := Tryd.sizeOf94
 v53 := Tryd.zeroValue94
 t171 := Tryd.underlying115
 a171 := Tryd.isAgg115
 z171 := Tryd.sizeOf115
 v171 := Tryd.zeroValue115
 t173 := Tryd.underlying118
 a173 := Tryd.isAgg118
 z173 := Tryd.sizeOf118
 v173 := Tryd.zeroValue118
 t212 := Tryd.underlying122
 a212 := Tryd.isAgg122
 z212 := Tryd.sizeOf122
 v212 := Tryd.zeroValue122
 t213 := Tryd.underlying124
 a213 := Tryd.isAgg124
 z213 := Tryd.sizeOf124
 t232 := Tryd.underlying128
 a232 := Tryd.isAgg128
 z232 := Tryd.sizeOf128
 v232 := Tryd.zeroValue128
 t233 := Tryd.underlying129
 a233 := Tryd.isAgg129
 z233 := Tryd.sizeOf129
 v233 := Tryd.zeroValue129
 g17 := by kernel_rfl
 g18 := by kernel_rfl
 g19 := by kernel_rfl
 i0 := by kernel_rfl
 i2 := by kernel_rfl
 i3 := by kernel_rfl
 i4 := by kernel_rfl
 i5 := by kernel_rfl
 i9 := by kernel_rfl
 i20 := by kernel_rfl
 i37 := by kernel_rfl
 i46 := by kernel_rfl
 i51 := by kernel_rfl
 i53 := by kernel_rfl
 i171 := by kernel_rfl
 i173 := by kernel_rfl
 i212 := by kernel_rfl
 i232 := by kernel_rfl
 i233 := by kernel_rfl
 m17 := by kernel_rfl
 m18 := by kernel_rfl
 m19 := by kernel_rfl
end Go.Proofs
namespace Go.Vsi
open Go.Proofs
theorem qMP : qOP Tryd.prog 77 := ⟨fun n w h0 h1 ht => (Any.strconv_FormatInt_10 Tryd.fmtL n h0 h1 w ht).mono fun e w' ⟨he, q, os, hw⟩ => ⟨he, hw ▸ ⟨rfl, rfl, rfl, by rw [Sort.size_grow]; exact Nat.le_add_right _ _, fun k hk => Sort.heap_grow_old _ _ hk⟩⟩⟩
def X0 : CallF := qMc qKP 77
theorem X0_mono : CallF.Mono X0 := qIw qIV 77
set_option maxRecDepth 100000 in
theorem X0_ok : vP Tryd.prog C X0 := qLR qMP (by kernel_rfl) (by kernel_rfl) (by kernel_rfl) Tryd.func77 (by kernel_rfl) (by kernel_rfl)
theorem qOI : ∀ args K, qKP args K -> X0 77 args K := fun args K h => ⟨rfl, h⟩
end Go.Vsi
end

section
namespace Go.Vsi
open Go.Proofs
section
variable (hX : CallF.Mono X0)
include hX
abbrev Z41.a : List TS := [.a [.o .str, .o (.int .i64)], .c (.o (.int .i64))]
def Z41.u (n : Nat) (v : VA Z41.a) (K : RES -> Prop) : Prop := Z41.c n v.1.1 v.1.2.1 v.2.1 (fun r0 => K ⟨.c (.int .i64 r0), []⟩)
theorem qNV : CT X0 15 Z41.a Z41.u :=
 ct hX Tryd.f15 (by kernel_rfl) (fun _ _ h => h) (D0 hX) nL (fun n v K => by kernel_rfl)
def D1 : CS X0 := oC (qNV hX) (D0 hX)
abbrev Z42.a : List TS := [.c (.o (.dat 42 Y5)), .c (.o (.int .i64))]
def Z42.u (n : Nat) (v : VA Z42.a) (K : RES -> Prop) : Prop := Z42.c n v.1 v.2.1 (fun r0 => K ⟨.c (.int .i64 r0), []⟩)
abbrev Z42.l5.s : ST := ⟨[(0, .c (.o (.dat 42 Y5))), (1, .c (.o (.int .i64))), (5, .c (.o (.int .i64)))], [], [], [], []⟩
def Z42.l5.u (n : Nat) (v : Z42.l5.s.V) (K : X -> St -> Prop) : Prop := Z42.l5 n v.1.1 v.1.2.1 v.1.2.2.1 (fun y0 => K (.exit 0) ⟨[(1, .c (.int .i64 y0))], [], [], [], []⟩) (fun y0 => K .ret ⟨[(4, .c (.int .i64 y0))], [], [], [], []⟩)
theorem Z42.l5_ok : LT X0 4 5 Z42.l5.s Z42.l5.u :=
 lt hX Tryd.f4 (by kernel_rfl) (fun _ _ h => h) (D1 hX) nL (fun n v K => by kernel_rfl)
theorem qNT : CT X0 4 Z42.a Z42.u :=
 ct hX Tryd.f4 (by kernel_rfl) (fun _ _ h => h) (D1 hX) (oL (Z42.l5_ok hX) nL) (fun n v K => by kernel_rfl)
def D2 : CS X0 := oC (qNT hX) (D1 hX)
abbrev Z47.a : List TS := [.c (.o (.dat 94 (.int .u64))), .c (.o (.int .i64))]
def Z47.u (n : Nat) (v : VA Z47.a) (K : RES -> Prop) : Prop := Z47.c n v.1 v.2.1 (fun r0 => K ⟨.c (.int .i64 r0), []⟩)
theorem qNJ : CT X0 59 Z47.a Z47.u :=
 ct hX Tryd.f59 (by kernel_rfl) (fun _ _ h => h) (D2 hX) nL (fun n v K => by kernel_rfl)
def D3 : CS X0 := oC (qNJ hX) (D2 hX)
abbrev Z40.a : List TS := [.a [.o (.int .i64), .o (.dat 94 (.int .u64))], .c (.o (.int .i64))]
def Z40.u (n : Nat) (v : VA Z40.a) (K : RES -> Prop) : Prop := Z40.c n v.1.1 v.1.2.1 v.2.1 (fun r0 => K ⟨.c (.int .i64 r0), []⟩)
theorem qNX : CT X0 43 Z40.a Z40.u :=
 ct hX Tryd.f43 (by kernel_rfl) (fun _ _ h => h) (D3 hX) nL (fun n v K => by kernel_rfl)
def D4 : CS X0 := oC (qNX hX) (D3 hX)
abbrev Z43.a : List TS := [.c (.o (.dat 2 (.int .i64))), .c (.o (.int .i64))]
def Z43.u (n : Nat) (v : VA Z43.a) (K : RES -> Prop) : Prop := Z43.c n v.1 v.2.1 (fun r0 => K ⟨.c (.int .i64 r0), []⟩)
theorem qNR : CT X0 44 Z43.a Z43.u :=
 ct hX Tryd.f44 (by kernel_rfl) (fun _ _ h => h) (D4 hX) nL (fun n v K => by kernel_rfl)
def D5 : CS X0 := oC (qNR hX) (D4 hX)
abbrev Z44.a : List TS := [.a [.o (.int .i64), .o (.int .i64), .o (.int .i64), .o (.int .i64), .o (.int .i64), .o (.dat 94 (.int .u64)), .o (.dat 2 (.int .i64))], .c (.o (.int .i64))]
def Z44.u (n : Nat) (v : VA Z44.a) (K : RES -> Prop) : Prop := Z44.c n v.1.1 v.1.2.1 v.1.2.2.1 v.1.2.2.2.1 v.1.2.2.2.2.1 v.1.2.2.2.2.2.1 v.1.2.2.2.2.2.2.1 v.2.1 (fun r0 => K ⟨.c (.int .i64 r0), []⟩)
theorem qNP : CT X0 28 Z44.a Z44.u :=
 ct hX Tryd.f28 (by kernel_rfl) (fun _ _ h => h) (D5 hX) nL (fun n v K => by kernel_rfl)
def D6 : CS X0 := oC (qNP hX) (D5 hX)
abbrev Z45.a : List TS := [.c (.o (.dat 61 Y1)), .c (.o (.int .i64))]
def Z45.u (n : Nat) (v : VA Z45.a) (K : RES -> Prop) : Prop := Z45.c n v.1 v.2.1 (fun r0 => K ⟨.c (.int .i64 r0), []⟩)
abbrev Z45.l5.s : ST := ⟨[(0, .c (.o (.dat 61 Y1))), (1, .c (.o (.int .i64))), (5, .c (.o (.int .i64)))], [], [], [], []⟩
def Z45.l5.u (n : Nat) (v : Z45.l5.s.V) (K : X -> St -> Prop) : Prop := Z45.l5 n v.1.1 v.1.2.1 v.1.2.2.1 (fun y0 => K (.exit 0) ⟨[(1, .c (.int .i64 y0))], [], [], [], []⟩) (fun y0 => K .ret ⟨[(4, .c (.int .i64 y0))], [], [], [], []⟩)
theorem Z45.l5_ok : LT X0 16 5 Z45.l5.s Z45.l5.u :=
 lt hX Tryd.f16 (by kernel_rfl) (fun _ _ h => h) (D6 hX) nL (fun n v K => by kernel_rfl)
theorem qNN : CT X0 16 Z45.a Z45.u :=
 ct hX Tryd.f16 (by kernel_rfl) (fun _ _ h => h) (D6 hX) (oL (Z45.l5_ok hX) nL) (fun n v K => by kernel_rfl)
def D7 : CS X0 := oC (qNN hX) (D6 hX)
abbrev Z46.a : List TS := [.a [.o (.dat 61 Y1)], .c (.o (.int .i64))]
def Z46.u (n : Nat) (v : VA Z46.a) (K : RES -> Prop) : Prop := Z46.c n v.1.1 v.2.1 (fun r0 => K ⟨.c (.int .i64 r0), []⟩)
theorem qNL : CT X0 5 Z46.a Z46.u :=
 ct hX Tryd.f5 (by kernel_rfl) (fun _ _ h => h) (D7 hX) nL (fun n v K => by kernel_rfl)
def D8 : CS X0 := oC (qNL hX) (D7 hX)
abbrev Z49.a : List TS := [.a [.o .str, .o (.int .i64)]]
def Z49.u (n : Nat) (v : VA Z49.a) (K : RES -> Prop) : Prop := Z49.c n v.1.1 v.1.2.1 (fun r0 r1 => K ⟨.agg [.str r0, .int .i64 r1], []⟩)
theorem qNF : CT X0 19 Z49.a Z49.u :=
 ct hX Tryd.f19 (by kernel_rfl) (fun _ _ h => h) (D8 hX) nL (fun n v K => by kernel_rfl)
def D9 : CS X0 := oC (qNF hX) (D8 hX)
abbrev Z50.a : List TS := [.c (.o (.dat 42 Y5))]
def Z50.u (n : Nat) (v : VA Z50.a) (K : RES -> Prop) : Prop := Z50.c n v.1 (fun r0 => K ⟨.c (.row ⟨48, .prod .str (.int .i64), r0, 99, none, []⟩), []⟩)
abbrev Z50.l3.s : ST := ⟨[(0, .c (.o (.dat 42 Y5))), (3, .c (.o (.own 224))), (4, .c (.o (.int .i64)))], [⟨224, 48, .prod .str (.int .i64), 99, .row⟩], [], [], []⟩
def Z50.l3.u (n : Nat) (v : Z50.l3.s.V) (K : X -> St -> Prop) : Prop := Z50.l3 n v.1.1 v.1.2.2.1 v.2.1.1 (fun y0 => K (.exit 0) ⟨[(3, .c (.own 224))], [(224, ⟨48, .prod .str (.int .i64), y0, 99, none, []⟩)], [], [], []⟩)
theorem Z50.l3_ok : LT X0 7 3 Z50.l3.s Z50.l3.u :=
 lt hX Tryd.f7 (by kernel_rfl) (fun _ _ h => h) (D9 hX) nL (fun n v K => by kernel_rfl)
theorem qND : CT X0 7 Z50.a Z50.u :=
 ct hX Tryd.f7 (by kernel_rfl) (fun _ _ h => h) (D9 hX) (oL (Z50.l3_ok hX) nL) (fun n v K => by kernel_rfl)
def D10 : CS X0 := oC (qND hX) (D9 hX)
abbrev Z55.a : List TS := [.c (.o (.dat 94 (.int .u64)))]
def Z55.u (n : Nat) (v : VA Z55.a) (K : RES -> Prop) : Prop := Z55.c n v.1 (fun r0 => K ⟨.c (.row ⟨94, .int .u64, r0, 99, none, []⟩), []⟩)
abbrev Z55.l3.s : ST := ⟨[(0, .c (.o (.dat 94 (.int .u64)))), (3, .c (.o (.own 224))), (4, .c (.o (.int .i64)))], [⟨224, 94, .int .u64, 99, .row⟩], [], [], []⟩
def Z55.l3.u (n : Nat) (v : Z55.l3.s.V) (K : X -> St -> Prop) : Prop := Z55.l3 n v.1.1 v.1.2.2.1 v.2.1.1 (fun y0 => K (.exit 0) ⟨[(3, .c (.own 224))], [(224, ⟨94, .int .u64, y0, 99, none, []⟩)], [], [], []⟩)
theorem Z55.l3_ok : LT X0 64 3 Z55.l3.s Z55.l3.u :=
 lt hX Tryd.f64 (by kernel_rfl) (fun _ _ h => h) (D10 hX) nL (fun n v K => by kernel_rfl)
theorem qNt : CT X0 64 Z55.a Z55.u :=
 ct hX Tryd.f64 (by kernel_rfl) (fun _ _ h => h) (D10 hX) (oL (Z55.l3_ok hX) nL) (fun n v K => by kernel_rfl)
def D11 : CS X0 := oC (qNt hX) (D10 hX)
abbrev Z48.a : List TS := [.a [.o (.int .i64), .o (.dat 94 (.int .u64))]]
def Z48.u (n : Nat) (v : VA Z48.a) (K : RES -> Prop) : Prop := Z48.c n v.1.1 v.1.2.1 (fun r0 r1 => K ⟨.agg [.int .i64 r0, .row ⟨94, .int .u64, r1, 99, none, []⟩], []⟩)
theorem qNH : CT X0 50 Z48.a Z48.u :=
 ct hX Tryd.f50 (by kernel_rfl) (fun _ _ h => h) (D11 hX) nL (fun n v K => by kernel_rfl)
def D12 : CS X0 := oC (qNH hX) (D11 hX)
abbrev Z51.a : List TS := [.c (.o (.dat 2 (.int .i64)))]
def Z51.u (n : Nat) (v : VA Z51.a) (K : RES -> Prop) : Prop := Z51.c n v.1 (fun r0 => K ⟨.c (.row ⟨2, .int .i64, r0, 99, none, []⟩), []⟩)
abbrev Z51.l3.s : ST := ⟨[(0, .c (.o (.dat 2 (.int .i64)))), (3, .c (.o (.own 224))), (4, .c (.o (.int .i64)))], [⟨224, 2, .int .i64, 99, .row⟩], [], [], []⟩
def Z51.l3.u (n : Nat) (v : Z51.l3.s.V) (K : X -> St -> Prop) : Prop := Z51.l3 n v.1.1 v.1.2.2.1 v.2.1.1 (fun y0 => K (.exit 0) ⟨[(3, .c (.own 224))], [(224, ⟨2, .int .i64, y0, 99, none, []⟩)], [], [], []⟩)
theorem Z51.l3_ok : LT X0 51 3 Z51.l3.s Z51.l3.u :=
 lt hX Tryd.f51 (by kernel_rfl) (fun _ _ h => h) (D12 hX) nL (fun n v K => by kernel_rfl)
theorem qNB : CT X0 51 Z51.a Z51.u :=
 ct hX Tryd.f51 (by kernel_rfl) (fun _ _ h => h) (D12 hX) (oL (Z51.l3_ok hX) nL) (fun n v K => by kernel_rfl)
def D13 : CS X0 := oC (qNB hX) (D12 hX)
abbrev Z52.a : List TS := [.a [.o (.int .i64), .o (.int .i64), .o (.int .i64), .o (.int .i64), .o (.int .i64), .o (.dat 94 (.int .u64)), .o (.dat 2 (.int .i64))]]
def Z52.u (n : Nat) (v : VA Z52.a) (K : RES -> Prop) : Prop := Z52.c n v.1.1 v.1.2.1 v.1.2.2.1 v.1.2.2.2.1 v.1.2.2.2.2.1 v.1.2.2.2.2.2.1 v.1.2.2.2.2.2.2.1 (fun r0 r1 r2 r3 r4 r5 r6 => K ⟨.agg [.int .i64 r0, .int .i64 r1, .int .i64 r2, .int .i64 r3, .int .i64 r4, .row ⟨94, .int .u64, r5, 99, none, []⟩, .row ⟨2, .int .i64, r6, 99, none, []⟩], []⟩)
theorem qNz : CT X0 32 Z52.a Z52.u :=
 ct hX Tryd.f32 (by kernel_rfl) (fun _ _ h => h) (D13 hX) nL (fun n v K => by kernel_rfl)
def D14 : CS X0 := oC (qNz hX) (D13 hX)
abbrev Z53.a : List TS := [.c (.o (.dat 61 Y1))]
def Z53.u (n : Nat) (v : VA Z53.a) (K : RES -> Prop) : Prop := Z53.c n v.1 (fun r0 => K ⟨.c (.row ⟨65, .prod (.int .i64) Y2, r0, 99, none, []⟩), []⟩)
abbrev Z53.l3.s : ST := ⟨[(0, .c (.o (.dat 61 Y1))), (3, .c (.o (.own 224))), (4, .c (.o (.int .i64)))], [⟨224, 65, .prod (.int .i64) Y2, 99, .row⟩], [], [], []⟩
def Z53.l3.u (n : Nat) (v : Z53.l3.s.V) (K : X -> St -> Prop) : Prop := Z53.l3 n v.1.1 v.1.2.2.1 v.2.1.1 (fun y0 => K (.exit 0) ⟨[(3, .c (.own 224))], [(224, ⟨65, .prod (.int .i64) Y2, y0, 99, none, []⟩)], [], [], []⟩)
theorem Z53.l3_ok : LT X0 20 3 Z53.l3.s Z53.l3.u :=
 lt hX Tryd.f20 (by kernel_rfl) (fun _ _ h => h) (D14 hX) nL (fun n v K => by kernel_rfl)
theorem qNx : CT X0 20 Z53.a Z53.u :=
 ct hX Tryd.f20 (by kernel_rfl) (fun _ _ h => h) (D14 hX) (oL (Z53.l3_ok hX) nL) (fun n v K => by kernel_rfl)
def D15 : CS X0 := oC (qNx hX) (D14 hX)
abbrev Z54.a : List TS := [.a [.o (.dat 61 Y1)]]
def Z54.u (n : Nat) (v : VA Z54.a) (K : RES -> Prop) : Prop := Z54.c n v.1.1 (fun r0 => K ⟨.agg [.row ⟨65, .prod (.int .i64) Y2, r0, 99, none, []⟩], []⟩)
theorem qNv : CT X0 8 Z54.a Z54.u :=
 ct hX Tryd.f8 (by kernel_rfl) (fun _ _ h => h) (D15 hX) nL (fun n v K => by kernel_rfl)
def D16 : CS X0 := oC (qNv hX) (D15 hX)
abbrev Z66.a : List TS := [.c (.o (.int .u8))]
def Z66.u (n : Nat) (v : VA Z66.a) (K : RES -> Prop) : Prop := Z66.c n v.1 (fun r0 => K ⟨.c (.bool r0), []⟩)
theorem qNf : CT X0 73 Z66.a Z66.u :=
 ct hX Tryd.f73 (by kernel_rfl) (fun _ _ h => h) (D16 hX) nL (fun n v K => by kernel_rfl)
def D17 : CS X0 := oC (qNf hX) (D16 hX)
abbrev Z68.a : List TS := [.c (.o .str)]
def Z68.u (n : Nat) (v : VA Z68.a) (K : RES -> Prop) : Prop := Z68.c n v.1 (fun r0 => K ⟨.c (.bool r0), []⟩)
abbrev Z68.l4.s : ST := ⟨[(0, .c (.o .str)), (3, .c (.o (.int .i64)))], [], [], [], []⟩
def Z68.l4.u (n : Nat) (v : Z68.l4.s.V) (K : X -> St -> Prop) : Prop := Z68.l4 n v.1.1 v.1.2.1 (K (.exit 0) ⟨[], [], [], [], []⟩) (fun y0 => K .ret ⟨[(2, .c (.bool y0))], [], [], [], []⟩)
theorem Z68.l4_ok : LT X0 60 4 Z68.l4.s Z68.l4.u :=
 lt hX Tryd.f60 (by kernel_rfl) (fun _ _ h => h) (D17 hX) nL (fun n v K => by kernel_rfl)
theorem qNd : CT X0 60 Z68.a Z68.u :=
 ct hX Tryd.f60 (by kernel_rfl) (fun _ _ h => h) (D17 hX) (oL (Z68.l4_ok hX) nL) (fun n v K => by kernel_rfl)
def D18 : CS X0 := oC (qNd hX) (D17 hX)
abbrev Z67.a : List TS := [.c (.o (.int .i64)), .c (.o (.int .i64)), .c (.o (.int .i64))]
def Z67.u (n : Nat) (v : VA Z67.a) (K : RES -> Prop) : Prop := Z67.c n v.1 v.2.1 v.2.2.1 (fun r0 => K ⟨.c (.bool r0), []⟩)
theorem qNe : CT X0 48 Z67.a Z67.u :=
 ct hX Tryd.f48 (by kernel_rfl) (fun _ _ h => h) (D18 hX) nL (fun n v K => by kernel_rfl)
def D19 : CS X0 := oC (qNe hX) (D18 hX)
abbrev Z62.a : List TS := [.c (.o (.dat 48 Y5))]
def Z62.u (n : Nat) (v : VA Z62.a) (K : RES -> Prop) : Prop := Z62.c n v.1 (fun r0 => K ⟨.c (.bool r0), []⟩)
abbrev Z62.l10.s : ST := ⟨[(0, .c (.o (.dat 48 Y5))), (3, .c (.o (.int .i64))), (4, .c (.o (.int .i64))), (5, .c (.o (.int .i64)))], [], [], [], []⟩
def Z62.l10.u (n : Nat) (v : Z62.l10.s.V) (K : X -> St -> Prop) : Prop := Z62.l10 n v.1.1 v.1.2.1 v.1.2.2.1 v.1.2.2.2.1 (fun y0 y1 y2 => K (.exit 2) ⟨[(0, .c (.dat 48 Y5 y0)), (3, .c (.int .i64 y1)), (4, .c (.int .i64 y2))], [], [], [], []⟩) (fun y0 => K .ret ⟨[(2, .c (.bool y0))], [], [], [], []⟩)
abbrev Z62.l5.s : ST := ⟨[(0, .c (.o (.dat 48 Y5))), (3, .c (.o (.int .i64))), (4, .c (.o (.int .i64)))], [], [], [], []⟩
def Z62.l5.u (n : Nat) (v : Z62.l5.s.V) (K : X -> St -> Prop) : Prop := Z62.l5 n v.1.1 v.1.2.1 v.1.2.2.1 (fun y0 => K (.exit 0) ⟨[(3, .c (.int .i64 y0))], [], [], [], []⟩) (fun y0 => K .ret ⟨[(2, .c (.bool y0))], [], [], [], []⟩)
theorem Z62.l10_ok : LT X0 45 10 Z62.l10.s Z62.l10.u :=
 lt hX Tryd.f45 (by kernel_rfl) (fun _ _ h => h) (D19 hX) nL (fun n v K => by kernel_rfl)
theorem Z62.l5_ok : LT X0 45 5 Z62.l5.s Z62.l5.u :=
 lt hX Tryd.f45 (by kernel_rfl) (fun _ _ h => h) (D19 hX) (oL (Z62.l10_ok hX) nL) (fun n v K => by kernel_rfl)
theorem qNj : CT X0 45 Z62.a Z62.u :=
 ct hX Tryd.f45 (by kernel_rfl) (fun _ _ h => h) (D19 hX) (oL (Z62.l5_ok hX) nL) (fun n v K => by kernel_rfl)
def D20 : CS X0 := oC (qNj hX) (D19 hX)
abbrev Z71.a : List TS := [.a [.o (.int .i64), .o (.dat 94 (.int .u64))]]
def Z71.u (n : Nat) (v : VA Z71.a) (K : RES -> Prop) : Prop := Z71.c n v.1.1 v.1.2.1 (fun r0 => K ⟨.c (.bool r0), []⟩)
theorem qNa : CT X0 61 Z71.a Z71.u :=
 ct hX Tryd.f61 (by kernel_rfl) (fun _ _ h => h) (D20 hX) nL (fun n v K => by kernel_rfl)
def D21 : CS X0 := oC (qNa hX) (D20 hX)
abbrev Z72.a : List TS := [.c (.o (.int .i64))]
def Z72.u (n : Nat) (v : VA Z72.a) (K : RES -> Prop) : Prop := Z72.c n v.1 (fun r0 => K ⟨.c (.bool r0), []⟩)
theorem qM9 : CT X0 62 Z72.a Z72.u :=
 ct hX Tryd.f62 (by kernel_rfl) (fun _ _ h => h) (D21 hX) nL (fun n v K => by kernel_rfl)
def D22 : CS X0 := oC (qM9 hX) (D21 hX)
abbrev Z65.a : List TS := [.a [.o (.int .i64), .o (.dat 94 (.int .u64))], .c (.o (.int .i64))]
def Z65.u (n : Nat) (v : VA Z65.a) (K : RES -> Prop) : Prop := Z65.c n v.1.1 v.1.2.1 v.2.1 (fun r0 => K ⟨.c (.int .u8 r0), []⟩)
theorem qNg : CT X0 74 Z65.a Z65.u :=
 ct hX Tryd.f74 (by kernel_rfl) (fun _ _ h => h) (D22 hX) nL (fun n v K => by kernel_rfl)
def D23 : CS X0 := oC (qNg hX) (D22 hX)
abbrev Z61.a : List TS := [.a [.o (.int .i64), .o (.dat 94 (.int .u64))]]
def Z61.u (n : Nat) (v : VA Z61.a) (K : RES -> Prop) : Prop := Z61.c n v.1.1 v.1.2.1 (fun r0 => K ⟨.c (.bool r0), []⟩)
abbrev Z61.l4.s : ST := ⟨[(1, .c (.o (.pbox 1 0))), (3, .c (.o (.int .i64)))], [], [⟨1, 63, [.o (.int .i64), .o (.dat 94 (.int .u64))], false, false⟩], [], []⟩
def Z61.l4.u (n : Nat) (v : Z61.l4.s.V) (K : X -> St -> Prop) : Prop := Z61.l4 n v.2.2.1.1 v.2.2.1.2.1 v.1.2.1 (K (.exit 0) ⟨[], [], [], [], []⟩) (fun y0 => K .ret ⟨[(2, .c (.bool y0))], [], [], [], []⟩)
theorem Z61.l4_ok : LT X0 63 4 Z61.l4.s Z61.l4.u :=
 lt hX Tryd.f63 (by kernel_rfl) (fun _ _ h => h) (D23 hX) nL (fun n v K => by kernel_rfl)
theorem qNk : CT X0 63 Z61.a Z61.u :=
 ct hX Tryd.f63 (by kernel_rfl) (fun _ _ h => h) (D23 hX) (oL (Z61.l4_ok hX) nL) (fun n v K => by kernel_rfl)
def D24 : CS X0 := oC (qNk hX) (D23 hX)
abbrev Z70.a : List TS := [.c (.o (.dat 48 Y5)), .a [.o (.int .i64), .o (.int .i64), .o (.int .i64), .o (.int .i64), .o (.int .i64), .o (.dat 94 (.int .u64)), .o (.dat 2 (.int .i64))], .c (.o (.int .i64))]
def Z70.u (n : Nat) (v : VA Z70.a) (K : RES -> Prop) : Prop := Z70.c n v.1 v.2.1.1 v.2.1.2.1 v.2.1.2.2.1 v.2.1.2.2.2.1 v.2.1.2.2.2.2.1 v.2.1.2.2.2.2.2.1 v.2.1.2.2.2.2.2.2.1 v.2.2.1 (fun r0 => K ⟨.c (.bool r0), []⟩)
abbrev Z70.l2.s : ST := ⟨[(0, .c (.o (.dat 48 Y5))), (2, .c (.o (.int .i64))), (4, .c (.o (.pbox 4 0))), (7, .c (.o (.int .i64)))], [], [⟨4, 65, [.o (.int .i64), .o (.int .i64), .o (.int .i64), .o (.int .i64), .o (.int .i64), .o (.dat 94 (.int .u64)), .o (.dat 2 (.int .i64))], false, false⟩], [], []⟩
def Z70.l2.u (n : Nat) (v : Z70.l2.s.V) (K : X -> St -> Prop) : Prop := Z70.l2 n v.1.1 v.1.2.1 v.2.2.1.1 v.2.2.1.2.1 v.2.2.1.2.2.1 v.2.2.1.2.2.2.1 v.2.2.1.2.2.2.2.1 v.2.2.1.2.2.2.2.2.1 v.2.2.1.2.2.2.2.2.2.1 v.1.2.2.2.1 (fun y0 y1 y2 y3 y4 y5 y6 y7 => K (.exit 0) ⟨[(0, .c (.dat 48 Y5 y0)), (4, .c (.pbox 4 0))], [], [(4, ⟨65, [.int .i64 y1, .int .i64 y2, .int .i64 y3, .int .i64 y4, .int .i64 y5, .dat 94 (.int .u64) y6, .dat 2 (.int .i64) y7], false, false⟩)], [], []⟩) (fun y0 => K .ret ⟨[(6, .c (.bool y0))], [], [], [], []⟩)
abbrev Z70.q7.s : ST := ⟨[(0, .c (.o (.dat 48 Y5))), (4, .c (.o (.pbox 4 0))), (63, .c (.o .bool))], [], [⟨4, 65, [.o (.int .i64), .o (.int .i64), .o (.int .i64), .o (.int .i64), .o (.int .i64), .o (.dat 94 (.int .u64)), .o (.dat 2 (.int .i64))], false, false⟩], [], []⟩
def Z70.q7.u (n : Nat) (v : Z70.q7.s.V) (K : X -> St -> Prop) : Prop := Z70.q7 n v.1.1 v.1.2.2.1 v.2.2.1.1 v.2.2.1.2.1 v.2.2.1.2.2.1 v.2.2.1.2.2.2.1 v.2.2.1.2.2.2.2.1 v.2.2.1.2.2.2.2.2.1 v.2.2.1.2.2.2.2.2.2.1 (fun y0 => K .ret ⟨[(6, .c (.bool y0))], [], [], [], []⟩) (fun y0 y1 y2 y3 y4 y5 y6 y7 => K .normal ⟨[(0, .c (.dat 48 Y5 y0)), (4, .c (.pbox 4 0))], [], [(4, ⟨65, [.int .i64 y1, .int .i64 y2, .int .i64 y3, .int .i64 y4, .int .i64 y5, .dat 94 (.int .u64) y6, .dat 2 (.int .i64) y7], false, false⟩)], [], []⟩)
abbrev Z70.q8.s : ST := ⟨[(0, .c (.o (.dat 48 Y5))), (4, .c (.o (.pbox 4 0)))], [], [⟨4, 65, [.o (.int .i64), .o (.int .i64), .o (.int .i64), .o (.int .i64), .o (.int .i64), .o (.dat 94 (.int .u64)), .o (.dat 2 (.int .i64))], false, false⟩], [], []⟩
def Z70.q8.u (n : Nat) (v : Z70.q8.s.V) (K : X -> St -> Prop) : Prop := Z70.q8 n v.1.1 v.2.2.1.1 v.2.2.1.2.1 v.2.2.1.2.2.1 v.2.2.1.2.2.2.1 v.2.2.1.2.2.2.2.1 v.2.2.1.2.2.2.2.2.1 v.2.2.1.2.2.2.2.2.2.1 (fun y0 => K .ret ⟨[(6, .c (.bool y0))], [], [], [], []⟩)
theorem Z70.l2_ok : LT X0 46 2 Z70.l2.s Z70.l2.u :=
 lt hX Tryd.f46 (by kernel_rfl) (fun _ _ h => h) (D24 hX) nL (fun n v K => by kernel_rfl)
theorem Z70.q7_ok : LT X0 46 1000007 Z70.q7.s Z70.q7.u :=
 cu hX Tryd.f46 (by kernel_rfl) (fun _ _ h => h) (D24 hX) nL (fun n v K => by kernel_rfl)
theorem Z70.q8_ok : LT X0 46 1000008 Z70.q8.s Z70.q8.u :=
 cu hX Tryd.f46 (by kernel_rfl) (fun _ _ h => h) (D24 hX) nL (fun n v K => by kernel_rfl)
theorem qNb : CT X0 46 Z70.a Z70.u :=
 ct hX Tryd.f46 (by kernel_rfl) (fun _ _ h => h) (D24 hX) (oL (Z70.l2_ok hX) (oL (Z70.q7_ok hX) (oL (Z70.q8_ok hX) nL))) (fun n v K => by kernel_rfl)
def D25 : CS X0 := oC (qNb hX) (D24 hX)
abbrev Z76.a : List TS := [.c (.o (.dat 48 Y5)), .a [.o (.int .i64), .o (.int .i64), .o (.int .i64), .o (.int .i64), .o (.int .i64), .o (.dat 94 (.int .u64)), .o (.dat 2 (.int .i64))], .c (.o (.dat 2 (.int .i64)))]
def Z76.u (n : Nat) (v : VA Z76.a) (K : RES -> Prop) : Prop := Z76.c n v.1 v.2.1.1 v.2.1.2.1 v.2.1.2.2.1 v.2.1.2.2.2.1 v.2.1.2.2.2.2.1 v.2.1.2.2.2.2.2.1 v.2.1.2.2.2.2.2.2.1 v.2.2.1 (fun r0 => K ⟨.c (.int .i64 r0), []⟩)
abbrev Z76.l3.s : ST := ⟨[(0, .c (.o (.dat 48 Y5))), (2, .c (.o (.dat 2 (.int .i64)))), (4, .c (.o (.pbox 4 0))), (7, .c (.o (.int .i64))), (8, .c (.o (.int .i64)))], [], [⟨4, 65, [.o (.int .i64), .o (.int .i64), .o (.int .i64), .o (.int .i64), .o (.int .i64), .o (.dat 94 (.int .u64)), .o (.dat 2 (.int .i64))], false, false⟩], [], []⟩
def Z76.l3.u (n : Nat) (v : Z76.l3.s.V) (K : X -> St -> Prop) : Prop := Z76.l3 n v.1.1 v.1.2.1 v.2.2.1.1 v.2.2.1.2.1 v.2.2.1.2.2.1 v.2.2.1.2.2.2.1 v.2.2.1.2.2.2.2.1 v.2.2.1.2.2.2.2.2.1 v.2.2.1.2.2.2.2.2.2.1 v.1.2.2.2.1 v.1.2.2.2.2.1 (fun y0 y1 y2 y3 y4 y5 y6 y7 y8 => K (.exit 0) ⟨[(0, .c (.dat 48 Y5 y0)), (4, .c (.pbox 4 0)), (7, .c (.int .i64 y1))], [], [(4, ⟨65, [.int .i64 y2, .int .i64 y3, .int .i64 y4, .int .i64 y5, .int .i64 y6, .dat 94 (.int .u64) y7, .dat 2 (.int .i64) y8], false, false⟩)], [], []⟩)
theorem Z76.l3_ok : LT X0 47 3 Z76.l3.s Z76.l3.u :=
 lt hX Tryd.f47 (by kernel_rfl) (fun _ _ h => h) (D25 hX) nL (fun n v K => by kernel_rfl)
theorem qM5 : CT X0 47 Z76.a Z76.u :=
 ct hX Tryd.f47 (by kernel_rfl) (fun _ _ h => h) (D25 hX) (oL (Z76.l3_ok hX) nL) (fun n v K => by kernel_rfl)
def D26 : CS X0 := oC (qM5 hX) (D25 hX)
abbrev Z77.a : List TS := [.c (.o (.dat 48 Y5)), .a [.o (.dat 65 Y1)]]
def Z77.u (n : Nat) (v : VA Z77.a) (K : RES -> Prop) : Prop := Z77.c n v.1 v.2.1.1 (fun r0 => K ⟨.c (.row ⟨2, .int .i64, r0, 99, none, []⟩), []⟩)
abbrev Z77.l16.s : ST := ⟨[(0, .c (.o (.dat 48 Y5))), (3, .c (.o (.pbox 3 0))), (5, .c (.o (.own 384))), (6, .c (.o (.own 2112))), (7, .c (.o (.own 1056))), (8, .c (.o (.int .i64))), (10, .c (.o (.int .i64)))], [⟨384, 2, .int .i64, 99, .row⟩, ⟨1056, 4, .bool, 99, .row⟩, ⟨2112, 2, .int .i64, 99, .row⟩], [⟨3, 30, [.o (.dat 65 Y1)], false, false⟩], [], []⟩
def Z77.l16.u (n : Nat) (v : Z77.l16.s.V) (K : X -> St -> Prop) : Prop := Z77.l16 n v.1.1 v.1.2.2.2.2.2.1 v.2.1.1 v.2.1.2.2.1 v.2.2.1.1 v.1.2.2.2.2.2.2.1 v.2.1.2.1 (fun y0 y1 y2 y3 y4 y5 => K (.exit 2) ⟨[(0, .c (.dat 48 Y5 y0)), (3, .c (.pbox 3 0)), (5, .c (.own 384)), (6, .c (.own 2112)), (7, .c (.own 1056)), (8, .c (.int .i64 y1))], [(384, ⟨2, .int .i64, y2, 99, none, []⟩), (1056, ⟨4, .bool, y3, 99, none, []⟩), (2112, ⟨2, .int .i64, y4, 99, none, []⟩)], [(3, ⟨30, [.dat 65 Y1 y5], false, false⟩)], [], []⟩)
abbrev Z77.l7.s : ST := ⟨[(0, .c (.o (.dat 48 Y5))), (3, .c (.o (.pbox 3 0))), (5, .c (.o (.own 384))), (6, .c (.o (.own 192))), (7, .c (.o (.own 1056))), (8, .c (.o (.int .i64)))], [⟨192, 2, .int .i64, 99, .row⟩, ⟨384, 2, .int .i64, 99, .row⟩, ⟨1056, 4, .bool, 99, .row⟩], [⟨3, 30, [.o (.dat 65 Y1)], false, false⟩], [], []⟩
def Z77.l7.u (n : Nat) (v : Z77.l7.s.V) (K : X -> St -> Prop) : Prop := Z77.l7 n v.1.1 v.1.2.2.2.2.2.1 v.2.1.1 v.2.1.2.1 v.2.1.2.2.1 v.2.2.1.1 (fun y0 y1 y2 => K (.exit 0) ⟨[(5, .c (.own 384)), (6, .c (.own 192)), (7, .c (.own 1056))], [(192, ⟨2, .int .i64, y0, 99, none, []⟩), (384, ⟨2, .int .i64, y1, 99, none, []⟩), (1056, ⟨4, .bool, y2, 99, none, []⟩)], [], [], []⟩) (fun y0 => K .ret ⟨[(4, .c (.own 384))], [(384, ⟨2, .int .i64, y0, 99, none, []⟩)], [], [], []⟩)
abbrev Z77.l20.s : ST := ⟨[(5, .c (.o (.own 384))), (6, .c (.o (.own 192))), (7, .c (.o (.own 1056))), (11, .c (.o (.int .i64)))], [⟨192, 2, .int .i64, 99, .row⟩, ⟨384, 2, .int .i64, 99, .row⟩, ⟨1056, 4, .bool, 99, .row⟩], [], [], []⟩
def Z77.l20.u (n : Nat) (v : Z77.l20.s.V) (K : X -> St -> Prop) : Prop := Z77.l20 n v.2.1.1 v.2.1.2.1 v.2.1.2.2.1 v.1.2.2.2.1 (fun y0 => K (.exit 4) ⟨[(6, .c (.own 192))], [(192, ⟨2, .int .i64, y0, 99, none, []⟩)], [], [], []⟩) (fun y0 => K .ret ⟨[(4, .c (.own 384))], [(384, ⟨2, .int .i64, y0, 99, none, []⟩)], [], [], []⟩)
theorem Z77.l16_ok : LT X0 29 16 Z77.l16.s Z77.l16.u :=
 lt hX Tryd.f29 (by kernel_rfl) (fun _ _ h => h) (D26 hX) nL (fun n v K => by kernel_rfl)
theorem Z77.l7_ok : LT X0 29 7 Z77.l7.s Z77.l7.u :=
 lt hX Tryd.f29 (by kernel_rfl) (fun _ _ h => h) (D26 hX) (oL (Z77.l16_ok hX) nL) (fun n v K => by kernel_rfl)
theorem Z77.l20_ok : LT X0 29 20 Z77.l20.s Z77.l20.u :=
 lt hX Tryd.f29 (by kernel_rfl) (fun _ _ h => h) (D26 hX) nL (fun n v K => by kernel_rfl)
theorem qM4 : CT X0 29 Z77.a Z77.u :=
 ct hX Tryd.f29 (by kernel_rfl) (fun _ _ h => h) (D26 hX) (oL (Z77.l7_ok hX) (oL (Z77.l20_ok hX) nL)) (fun n v K => by kernel_rfl)
def D27 : CS X0 := oC (qM4 hX) (D26 hX)
abbrev Z64.a : List TS := [.c (.o (.dat 48 Y5)), .a [.o (.dat 65 Y1)]]
def Z64.u (n : Nat) (v : VA Z64.a) (K : RES -> Prop) : Prop := Z64.c n v.1 v.2.1.1 (fun r0 => K ⟨.c (.int .i64 r0), []⟩)
theorem qNh : CT X0 17 Z64.a Z64.u :=
 ct hX Tryd.f17 (by kernel_rfl) (fun _ _ h => h) (D27 hX) nL (fun n v K => by kernel_rfl)
def D28 : CS X0 := oC (qNh hX) (D27 hX)
abbrev Z69.a : List TS := [.a [.o (.int .i64), .o (.int .i64), .o (.int .i64), .o (.int .i64), .o (.int .i64), .o (.dat 94 (.int .u64)), .o (.dat 2 (.int .i64))]]
def Z69.u (n : Nat) (v : VA Z69.a) (K : RES -> Prop) : Prop := Z69.c n v.1.1 v.1.2.1 v.1.2.2.1 v.1.2.2.2.1 v.1.2.2.2.2.1 v.1.2.2.2.2.2.1 v.1.2.2.2.2.2.2.1 (fun r0 r1 r2 r3 r4 r5 r6 => K ⟨.agg [.int .i64 r0, .int .i64 r1, .int .i64 r2, .int .i64 r3, .int .i64 r4, .row ⟨94, .int .u64, r5, 99, none, []⟩, .row ⟨2, .int .i64, r6, 99, none, []⟩], []⟩)
theorem qNc : CT X0 30 Z69.a Z69.u :=
 ct hX Tryd.f30 (by kernel_rfl) (fun _ _ h => h) (D28 hX) nL (fun n v K => by kernel_rfl)
def D29 : CS X0 := oC (qNc hX) (D28 hX)
abbrev Z73.a : List TS := [.a [.o (.int .i64), .o (.dat 94 (.int .u64))], .a [.o (.int .i64), .o (.dat 94 (.int .u64))]]
def Z73.u (n : Nat) (v : VA Z73.a) (K : RES -> Prop) : Prop := Z73.c n v.1.1 v.1.2.1 v.2.1.1 v.2.1.2.1 (fun r0 => K ⟨.c (.bool r0), []⟩)
abbrev Z73.l4.s : ST := ⟨[(2, .c (.o (.pbox 2 0))), (3, .c (.o (.pbox 3 0))), (5, .c (.o (.int .i64)))], [], [⟨2, 63, [.o (.int .i64), .o (.dat 94 (.int .u64))], false, false⟩, ⟨3, 63, [.o (.int .i64), .o (.dat 94 (.int .u64))], false, false⟩], [], []⟩
def Z73.l4.u (n : Nat) (v : Z73.l4.s.V) (K : X -> St -> Prop) : Prop := Z73.l4 n v.2.2.1.1 v.2.2.1.2.1 v.2.2.2.1.1 v.2.2.2.1.2.1 v.1.2.2.1 (K (.exit 0) ⟨[], [], [], [], []⟩) (fun y0 => K .ret ⟨[(4, .c (.bool y0))], [], [], [], []⟩)
theorem Z73.l4_ok : LT X0 49 4 Z73.l4.s Z73.l4.u :=
 lt hX Tryd.f49 (by kernel_rfl) (fun _ _ h => h) (D29 hX) nL (fun n v K => by kernel_rfl)
theorem qM8 : CT X0 49 Z73.a Z73.u :=
 ct hX Tryd.f49 (by kernel_rfl) (fun _ _ h => h) (D29 hX) (oL (Z73.l4_ok hX) nL) (fun n v K => by kernel_rfl)
def D30 : CS X0 := oC (qM8 hX) (D29 hX)
abbrev Z74.a : List TS := [.a [.o (.int .i64), .o (.int .i64), .o (.int .i64), .o (.int .i64), .o (.int .i64), .o (.dat 94 (.int .u64)), .o (.dat 2 (.int .i64))], .a [.o (.int .i64), .o (.int .i64), .o (.int .i64), .o (.int .i64), .o (.int .i64), .o (.dat 94 (.int .u64)), .o (.dat 2 (.int .i64))]]
def Z74.u (n : Nat) (v : VA Z74.a) (K : RES -> Prop) : Prop := Z74.c n v.1.1 v.1.2.1 v.1.2.2.1 v.1.2.2.2.1 v.1.2.2.2.2.1 v.1.2.2.2.2.2.1 v.1.2.2.2.2.2.2.1 v.2.1.1 v.2.1.2.1 v.2.1.2.2.1 v.2.1.2.2.2.1 v.2.1.2.2.2.2.1 v.2.1.2.2.2.2.2.1 v.2.1.2.2.2.2.2.2.1 (fun r0 => K ⟨.c (.bool r0), []⟩)
abbrev Z74.l4.s : ST := ⟨[(2, .c (.o (.pbox 2 0))), (3, .c (.o (.pbox 3 0))), (5, .c (.o (.int .i64)))], [], [⟨2, 65, [.o (.int .i64), .o (.int .i64), .o (.int .i64), .o (.int .i64), .o (.int .i64), .o (.dat 94 (.int .u64)), .o (.dat 2 (.int .i64))], false, false⟩, ⟨3, 65, [.o (.int .i64), .o (.int .i64), .o (.int .i64), .o (.int .i64), .o (.int .i64), .o (.dat 94 (.int .u64)), .o (.dat 2 (.int .i64))], false, false⟩], [], []⟩
def Z74.l4.u (n : Nat) (v : Z74.l4.s.V) (K : X -> St -> Prop) : Prop := Z74.l4 n v.2.2.1.1 v.2.2.1.2.1 v.2.2.1.2.2.1 v.2.2.1.2.2.2.1 v.2.2.1.2.2.2.2.1 v.2.2.1.2.2.2.2.2.1 v.2.2.1.2.2.2.2.2.2.1 v.2.2.2.1.1 v.2.2.2.1.2.1 v.2.2.2.1.2.2.1 v.2.2.2.1.2.2.2.1 v.2.2.2.1.2.2.2.2.1 v.2.2.2.1.2.2.2.2.2.1 v.2.2.2.1.2.2.2.2.2.2.1 v.1.2.2.1 (K (.exit 0) ⟨[], [], [], [], []⟩) (fun y0 => K .ret ⟨[(4, .c (.bool y0))], [], [], [], []⟩)
theorem Z74.l4_ok : LT X0 31 4 Z74.l4.s Z74.l4.u :=
 lt hX Tryd.f31 (by kernel_rfl) (fun _ _ h => h) (D30 hX) nL (fun n v K => by kernel_rfl)
theorem qM7 : CT X0 31 Z74.a Z74.u :=
 ct hX Tryd.f31 (by kernel_rfl) (fun _ _ h => h) (D30 hX) (oL (Z74.l4_ok hX) nL) (fun n v K => by kernel_rfl)
def D31 : CS X0 := oC (qM7 hX) (D30 hX)
abbrev Z75.a : List TS := [.c (.o (.dat 65 Y1))]
def Z75.u (n : Nat) (v : VA Z75.a) (K : RES -> Prop) : Prop := Z75.c n v.1 (fun r0 r1 => K ⟨.tup [.agg [.row ⟨65, .prod (.int .i64) Y2, r0, 99, none, []⟩], .c (.row ⟨2, .int .i64, r1, 99, none, []⟩)], []⟩)
abbrev Z75.l8.s : ST := ⟨[(0, .c (.o (.dat 65 Y1))), (2, .c (.o (.pbox 2 0))), (4, .c (.o (.pbox 4 0))), (5, .c (.o (.own 160))), (6, .c (.o (.int .i64))), (7, .c (.o (.pbox 7 0))), (8, .c (.o (.int .i64)))], [⟨160, 2, .int .i64, 99, .row⟩, ⟨741, 94, .int .u64, 99, .row⟩, ⟨742, 2, .int .i64, 99, .row⟩, ⟨1000064, 65, .prod (.int .i64) Y2, 99, .row⟩, ⟨1000128, 65, .prod (.int .i64) Y2, 99, .row⟩], [⟨2, 30, [.o (.own 1000064)], false, false⟩, ⟨4, 30, [.o (.own 1000128)], false, false⟩, ⟨7, 65, [.o (.int .i64), .o (.int .i64), .o (.int .i64), .o (.int .i64), .o (.int .i64), .o (.own 741), .o (.own 742)], false, false⟩], [], []⟩
def Z75.l8.u (n : Nat) (v : Z75.l8.s.V) (K : X -> St -> Prop) : Prop := Z75.l8 n v.1.1 v.1.2.2.2.2.1 v.2.1.1 v.2.1.2.1 v.2.1.2.2.2.1 v.2.1.2.2.2.2.1 v.2.2.2.2.1.1 v.2.2.2.2.1.2.1 v.2.2.2.2.1.2.2.1 v.2.2.2.2.1.2.2.2.1 v.2.2.2.2.1.2.2.2.2.1 v.1.2.2.2.2.2.2.1 v.2.1.2.2.1 (fun y0 y1 y2 y3 y4 y5 y6 y7 y8 y9 y10 y11 => K (.exit 2) ⟨[(0, .c (.dat 65 Y1 y0)), (2, .c (.pbox 2 0)), (4, .c (.pbox 4 0)), (5, .c (.own 160)), (6, .c (.int .i64 y1)), (7, .c (.pbox 7 0))], [(160, ⟨2, .int .i64, y2, 99, none, []⟩), (741, ⟨94, .int .u64, y3, 99, none, []⟩), (742, ⟨2, .int .i64, y4, 99, none, []⟩), (1000064, ⟨65, .prod (.int .i64) Y2, y5, 99, none, []⟩), (1000128, ⟨65, .prod (.int .i64) Y2, y6, 99, none, []⟩)], [(2, ⟨30, [.own 1000064], false, false⟩), (4, ⟨30, [.own 1000128], false, false⟩), (7, ⟨65, [.int .i64 y7, .int .i64 y8, .int .i64 y9, .int .i64 y10, .int .i64 y11, .own 741, .own 742], false, false⟩)], [], []⟩)
abbrev Z75.l13.s : ST := ⟨[(0, .c (.o (.dat 65 Y1))), (2, .c (.o (.pbox 2 0))), (4, .c (.o (.pbox 4 0))), (5, .c (.o (.own 160))), (6, .c (.o (.int .i64))), (7, .c (.o (.pbox 7 0))), (9, .c (.o (.int .i64))), (10, .c (.o (.int .i64)))], [⟨160, 2, .int .i64, 99, .row⟩, ⟨741, 94, .int .u64, 99, .row⟩, ⟨742, 2, .int .i64, 99, .row⟩, ⟨1000064, 65, .prod (.int .i64) Y2, 99, .row⟩, ⟨1000128, 65, .prod (.int .i64) Y2, 99, .row⟩], [⟨2, 30, [.o (.own 1000064)], false, false⟩, ⟨4, 30, [.o (.own 1000128)], false, false⟩, ⟨7, 65, [.o (.int .i64), .o (.int .i64), .o (.int .i64), .o (.int .i64), .o (.int .i64), .o (.own 741), .o (.own 742)], false, false⟩], [], []⟩
def Z75.l13.u (n : Nat) (v : Z75.l13.s.V) (K : X -> St -> Prop) : Prop := Z75.l13 n v.1.1 v.1.2.2.2.2.1 v.2.1.1 v.2.1.2.1 v.2.1.2.2.1 v.2.1.2.2.2.1 v.2.1.2.2.2.2.1 v.2.2.2.2.1.1 v.2.2.2.2.1.2.1 v.2.2.2.2.1.2.2.1 v.2.2.2.2.1.2.2.2.1 v.2.2.2.2.1.2.2.2.2.1 v.1.2.2.2.2.2.2.1 v.1.2.2.2.2.2.2.2.1 (fun y0 y1 y2 y3 y4 y5 y6 y7 y8 y9 y10 y11 y12 => K (.exit 4) ⟨[(0, .c (.dat 65 Y1 y0)), (2, .c (.pbox 2 0)), (4, .c (.pbox 4 0)), (5, .c (.own 160)), (6, .c (.int .i64 y1)), (7, .c (.pbox 7 0)), (9, .c (.int .i64 y2))], [(160, ⟨2, .int .i64, y3, 99, none, []⟩), (741, ⟨94, .int .u64, y4, 99, none, []⟩), (742, ⟨2, .int .i64, y5, 99, none, []⟩), (1000064, ⟨65, .prod (.int .i64) Y2, y6, 99, none, []⟩), (1000128, ⟨65, .prod (.int .i64) Y2, y7, 99, none, []⟩)], [(2, ⟨30, [.own 1000064], false, false⟩), (4, ⟨30, [.own 1000128], false, false⟩), (7, ⟨65, [.int .i64 y8, .int .i64 y9, .int .i64 y10, .int .i64 y11, .int .i64 y12, .own 741, .own 742], false, false⟩)], [], []⟩)
abbrev Z75.l4.s : ST := ⟨[(0, .c (.o (.dat 65 Y1))), (2, .c (.o (.pbox 2 0))), (4, .c (.o (.pbox 4 0))), (5, .c (.o (.own 160))), (6, .c (.o (.int .i64)))], [⟨160, 2, .int .i64, 99, .row⟩, ⟨1000064, 65, .prod (.int .i64) Y2, 99, .row⟩, ⟨1000128, 65, .prod (.int .i64) Y2, 99, .row⟩], [⟨2, 30, [.o (.own 1000064)], false, false⟩, ⟨4, 30, [.o (.own 1000128)], false, false⟩], [], []⟩
def Z75.l4.u (n : Nat) (v : Z75.l4.s.V) (K : X -> St -> Prop) : Prop := Z75.l4 n v.1.1 v.1.2.2.2.2.1 v.2.1.1 v.2.1.2.1 v.2.1.2.2.1 (fun y0 y1 y2 => K (.exit 0) ⟨[(2, .c (.pbox 2 0)), (4, .c (.pbox 4 0)), (5, .c (.own 160))], [(160, ⟨2, .int .i64, y0, 99, none, []⟩), (1000064, ⟨65, .prod (.int .i64) Y2, y1, 99, none, []⟩), (1000128, ⟨65, .prod (.int .i64) Y2, y2, 99, none, []⟩)], [(2, ⟨30, [.own 1000064], false, false⟩), (4, ⟨30, [.own 1000128], false, false⟩)], [], []⟩)
theorem Z75.l8_ok : LT X0 18 8 Z75.l8.s Z75.l8.u :=
 lt hX Tryd.f18 (by kernel_rfl) (fun _ _ h => h) (D31 hX) nL (fun n v K => by kernel_rfl)
theorem Z75.l13_ok : LT X0 18 13 Z75.l13.s Z75.l13.u :=
 lt hX Tryd.f18 (by kernel_rfl) (fun _ _ h => h) (D31 hX) nL (fun n v K => by kernel_rfl)
theorem Z75.l4_ok : LT X0 18 4 Z75.l4.s Z75.l4.u :=
 lt hX Tryd.f18 (by kernel_rfl) (fun _ _ h => h) (D31 hX) (oL (Z75.l8_ok hX) (oL (Z75.l13_ok hX) nL)) (fun n v K => by kernel_rfl)
theorem qM6 : CT X0 18 Z75.a Z75.u :=
 ct hX Tryd.f18 (by kernel_rfl) (fun _ _ h => h) (D31 hX) (oL (Z75.l4_ok hX) nL) (fun n v K => by kernel_rfl)
def D32 : CS X0 := oC (qM6 hX) (D31 hX)
abbrev Z63.a : List TS := [.c (.o (.dat 48 Y5)), .a [.o (.dat 65 Y1)]]
def Z63.u (n : Nat) (v : VA Z63.a) (K : RES -> Prop) : Prop := Z63.c n v.1 v.2.1.1 (fun r0 => K ⟨.agg [.row ⟨65, .prod (.int .i64) Y2, r0, 99, none, []⟩], []⟩)
theorem qNi : CT X0 6 Z63.a Z63.u :=
 ct hX Tryd.f6 (by kernel_rfl) (fun _ _ h => h) (D32 hX) nL (fun n v K => by kernel_rfl)
def D33 : CS X0 := oC (qNi hX) (D32 hX)
abbrev Z16.a : List TS := [.c (.o .str)]
def Z16.u (n : Nat) (v : VA Z16.a) (K : RES -> Prop) : Prop := Z16.c n v.1 (fun r0 => K ⟨.c (.bool r0), []⟩)
abbrev Z16.l4.s : ST := ⟨[(0, .c (.o .str)), (3, .c (.o (.int .i64)))], [], [], [], []⟩
def Z16.l4.u (n : Nat) (v : Z16.l4.s.V) (K : X -> St -> Prop) : Prop := Z16.l4 n v.1.1 v.1.2.1 (K (.exit 0) ⟨[], [], [], [], []⟩) (fun y0 => K .ret ⟨[(2, .c (.bool y0))], [], [], [], []⟩)
theorem Z16.l4_ok : LT X0 52 4 Z16.l4.s Z16.l4.u :=
 lt hX Tryd.f52 (by kernel_rfl) (fun _ _ h => h) (D33 hX) nL (fun n v K => by kernel_rfl)
theorem qOB : CT X0 52 Z16.a Z16.u :=
 ct hX Tryd.f52 (by kernel_rfl) (fun _ _ h => h) (D33 hX) (oL (Z16.l4_ok hX) nL) (fun n v K => by kernel_rfl)
def D34 : CS X0 := oC (qOB hX) (D33 hX)
abbrev Z15.a : List TS := [.c (.o (.int .i64)), .c (.o (.int .i64)), .c (.o (.int .i64))]
def Z15.u (n : Nat) (v : VA Z15.a) (K : RES -> Prop) : Prop := Z15.c n v.1 v.2.1 v.2.2.1 (fun r0 => K ⟨.c (.bool r0), []⟩)
theorem qOC : CT X0 53 Z15.a Z15.u :=
 ct hX Tryd.f53 (by kernel_rfl) (fun _ _ h => h) (D34 hX) nL (fun n v K => by kernel_rfl)
def D35 : CS X0 := oC (qOC hX) (D34 hX)
abbrev Z14.a : List TS := [.a [.o .str, .o (.int .i64)], .c (.o (.pdat 9 .str 0))]
def Z14.u (n : Nat) (v : VA Z14.a) (K : RES -> Prop) : Prop := Z14.c n v.1.1 v.1.2.1 v.2.1 (fun r0 => K ⟨.c (.bool r0), []⟩)
theorem qOD : CT X0 66 Z14.a Z14.u :=
 ct hX Tryd.f66 (by kernel_rfl) (fun _ _ h => h) (D35 hX) nL (fun n v K => by kernel_rfl)
def D36 : CS X0 := oC (qOD hX) (D35 hX)
abbrev Z59.a : List TS := [.c (.o (.dat 48 Y5)), .c (.fn 66 [(false, 1)] 0 [.pdat 9 .str 0])]
def Z59.u (n : Nat) (v : VA Z59.a) (K : RES -> Prop) : Prop := Z59.c n v.1 v.2.1.1 (fun r0 => K ⟨.c (.int .i64 r0), []⟩)
abbrev Z59.l2.s : ST := ⟨[(0, .c (.o (.dat 48 Y5))), (1, .c (.fn 66 [(false, 1)] 0 [.pdat 9 .str 0])), (7, .c (.o (.int .i64))), (8, .c (.o (.int .i64)))], [], [], [], []⟩
def Z59.l2.u (n : Nat) (v : Z59.l2.s.V) (K : X -> St -> Prop) : Prop := Z59.l2 n v.1.1 v.1.2.1.1 v.1.2.2.1 v.1.2.2.2.1 (K (.exit 0) ⟨[], [], [], [], []⟩) (fun y0 => K .ret ⟨[(4, .c (.int .i64 y0))], [], [], [], []⟩)
theorem Z59.l2_ok : LT X0 65 2 Z59.l2.s Z59.l2.u :=
 lt hX Tryd.f65 (by kernel_rfl) (fun _ _ h => h) (D36 hX) nL (fun n v K => by kernel_rfl)
theorem qNn : CT X0 65 Z59.a Z59.u :=
 ct hX Tryd.f65 (by kernel_rfl) (fun _ _ h => h) (D36 hX) (oL (Z59.l2_ok hX) nL) (fun n v K => by kernel_rfl)
def D37 : CS X0 := oC (qNn hX) (D36 hX)
abbrev Z13.a : List TS := [.c (.o (.dat 48 Y5)), .c (.o .str)]
def Z13.u (n : Nat) (v : VA Z13.a) (K : RES -> Prop) : Prop := Z13.c n v.1 v.2.1 (fun r0 => K ⟨.c (.int .i64 r0), []⟩)
theorem qOE : CT X0 54 Z13.a Z13.u :=
 ct hX Tryd.f54 (by kernel_rfl) (fun _ _ h => h) (D37 hX) nL (fun n v K => by kernel_rfl)
def D38 : CS X0 := oC (qOE hX) (D37 hX)
abbrev Z1.a : List TS := [.c (.o (.dat 48 Y5))]
def Z1.u (n : Nat) (v : VA Z1.a) (K : RES -> Prop) : Prop := Z1.c n v.1 (fun r0 => K ⟨.c (.bool r0), []⟩)
abbrev Z1.l5.s : ST := ⟨[(0, .c (.o (.dat 48 Y5))), (3, .c (.o (.int .i64))), (9, .c (.o (.dat 48 Y5))), (10, .c (.o (.int .i64))), (11, .c (.o (.int .i64)))], [], [], [], []⟩
def Z1.l5.u (n : Nat) (v : Z1.l5.s.V) (K : X -> St -> Prop) : Prop := Z1.l5 n v.1.1 v.1.2.2.1 v.1.2.2.2.1 v.1.2.1 v.1.2.2.2.2.1 (fun y0 => K (.exit 0) ⟨[(3, .c (.int .i64 y0))], [], [], [], []⟩) (fun y0 => K .ret ⟨[(2, .c (.bool y0))], [], [], [], []⟩)
theorem Z1.l5_ok : LT X0 33 5 Z1.l5.s Z1.l5.u :=
 lt hX Tryd.f33 (by kernel_rfl) (fun _ _ h => h) (D38 hX) nL (fun n v K => by kernel_rfl)
theorem qPk : CT X0 33 Z1.a Z1.u :=
 ct hX Tryd.f33 (by kernel_rfl) (fun _ _ h => h) (D38 hX) (oL (Z1.l5_ok hX) nL) (fun n v K => by kernel_rfl)
def D39 : CS X0 := oC (qPk hX) (D38 hX)
abbrev Z21.a : List TS := [.c (.o (.int .i64))]
def Z21.u (n : Nat) (v : VA Z21.a) (K : RES -> Prop) : Prop := Z21.c n v.1 (fun r0 => K ⟨.c (.int .i64 r0), []⟩)
theorem qOw : CT X0 81 Z21.a Z21.u :=
 ct hX Tryd.f81 (by kernel_rfl) (fun _ _ h => h) (D39 hX) nL (fun n v K => by kernel_rfl)
def D40 : CS X0 := oC (qOw hX) (D39 hX)
abbrev Z0.a : List TS := [.a [.o (.int .i64), .o (.dat 94 (.int .u64))]]
def Z0.u (n : Nat) (v : VA Z0.a) (K : RES -> Prop) : Prop := Z0.c n v.1.1 v.1.2.1 (fun r0 => K ⟨.c (.bool r0), []⟩)
theorem qPl : CT X0 75 Z0.a Z0.u :=
 ct hX Tryd.f75 (by kernel_rfl) (fun _ _ h => h) (D40 hX) nL (fun n v K => by kernel_rfl)
def D41 : CS X0 := oC (qPl hX) (D40 hX)
abbrev Z5.a : List TS := [.c (.o (.pdat 65 Y1 0)), .c (.o (.dat 48 Y5)), .c (.o (.dat 2 (.int .i64)))]
def Z5.u (n : Nat) (v : VA Z5.a) (K : RES -> Prop) : Prop := Z5.c n v.1 v.2.1 v.2.2.1 (fun r0 => K ⟨.c (.int .i64 r0), []⟩)
abbrev Z5.l11.s : ST := ⟨[(8, .c (.o (.int .i64))), (80, .c (.o (.dat 2 (.int .i64)))), (81, .c (.o (.int .i64))), (82, .c (.o (.int .i64)))], [], [], [], []⟩
def Z5.l11.u (n : Nat) (v : Z5.l11.s.V) (K : X -> St -> Prop) : Prop := Z5.l11 n v.1.2.1 v.1.2.2.1 v.1.1 v.1.2.2.2.1 (fun y0 => K (.exit 1) ⟨[(8, .c (.int .i64 y0))], [], [], [], []⟩)
abbrev Z5.q21.s : ST := ⟨[(0, .c (.o (.pdat 65 Y1 0))), (7, .c (.o (.int .i64))), (137, .c (.o .bool))], [], [], [], []⟩
def Z5.q21.u (n : Nat) (v : Z5.q21.s.V) (K : X -> St -> Prop) : Prop := Z5.q21 n v.1.1 v.1.2.1 v.1.2.2.1 (fun y0 => K .ret ⟨[(6, .c (.int .i64 y0))], [], [], [], []⟩) (K .normal ⟨[], [], [], [], []⟩)
abbrev Z5.q9.s : ST := ⟨[(0, .c (.o (.pdat 65 Y1 0))), (2, .c (.o (.dat 2 (.int .i64)))), (7, .c (.o (.int .i64))), (69, .c (.o .bool))], [], [], [], []⟩
def Z5.q9.u (n : Nat) (v : Z5.q9.s.V) (K : X -> St -> Prop) : Prop := Z5.q9 n v.1.1 v.1.2.1 v.1.2.2.1 v.1.2.2.2.1 (fun y0 => K .ret ⟨[(6, .c (.int .i64 y0))], [], [], [], []⟩) (K .normal ⟨[], [], [], [], []⟩)
abbrev Z5.q5.s : ST := ⟨[(0, .c (.o (.pdat 65 Y1 0))), (1, .c (.o (.dat 48 Y5))), (2, .c (.o (.dat 2 (.int .i64)))), (7, .c (.o (.int .i64))), (17, .c (.o .bool))], [], [], [], []⟩
def Z5.q5.u (n : Nat) (v : Z5.q5.s.V) (K : X -> St -> Prop) : Prop := Z5.q5 n v.1.1 v.1.2.1 v.1.2.2.1 v.1.2.2.2.1 v.1.2.2.2.2.1 (fun y0 => K .ret ⟨[(6, .c (.int .i64 y0))], [], [], [], []⟩) (K .normal ⟨[], [], [], [], []⟩)
theorem Z5.l11_ok : LT X0 67 11 Z5.l11.s Z5.l11.u :=
 lt hX Tryd.f67 (by kernel_rfl) (fun _ _ h => h) (D41 hX) nL (fun n v K => by kernel_rfl)
theorem Z5.q21_ok : LT X0 67 1000021 Z5.q21.s Z5.q21.u :=
 cu hX Tryd.f67 (by kernel_rfl) (fun _ _ h => h) (D41 hX) nL (fun n v K => by kernel_rfl)
theorem Z5.q9_ok : LT X0 67 1000009 Z5.q9.s Z5.q9.u :=
 cu hX Tryd.f67 (by kernel_rfl) (fun _ _ h => h) (D41 hX) (oL (Z5.l11_ok hX) (oL (Z5.q21_ok hX) nL)) (fun n v K => by kernel_rfl)
theorem Z5.q5_ok : LT X0 67 1000005 Z5.q5.s Z5.q5.u :=
 cu hX Tryd.f67 (by kernel_rfl) (fun _ _ h => h) (D41 hX) (oL (Z5.q9_ok hX) nL) (fun n v K => by kernel_rfl)
theorem qPg : CT X0 67 Z5.a Z5.u :=
 ct hX Tryd.f67 (by kernel_rfl) (fun _ _ h => h) (D41 hX) (oL (Z5.q5_ok hX) nL) (fun n v K => by kernel_rfl)
def D42 : CS X0 := oC (qPg hX) (D41 hX)
abbrev Z4.a : List TS := [.c (.o (.pdat 65 Y1 0))]
def Z4.u (n : Nat) (v : VA Z4.a) (K : RES -> Prop) : Prop := Z4.c n v.1 (fun r0 => K ⟨.c (.bool r0), []⟩)
abbrev Z4.q3.s : ST := ⟨[(0, .c (.o (.pdat 65 Y1 0))), (52, .c (.o .bool))], [], [], [], []⟩
def Z4.q3.u (n : Nat) (v : Z4.q3.s.V) (K : X -> St -> Prop) : Prop := Z4.q3 n v.1.1 v.1.2.1 (fun y0 => K .ret ⟨[(2, .c (.bool y0))], [], [], [], []⟩) (fun y0 => K .normal ⟨[(0, .c (.pdat 65 Y1 y0 0))], [], [], [], []⟩)
abbrev Z4.q2.s : ST := ⟨[(0, .c (.o (.pdat 65 Y1 0))), (3, .c (.o .bool))], [], [], [], []⟩
def Z4.q2.u (n : Nat) (v : Z4.q2.s.V) (K : X -> St -> Prop) : Prop := Z4.q2 n v.1.1 v.1.2.1 (fun y0 => K .ret ⟨[(2, .c (.bool y0))], [], [], [], []⟩)
theorem Z4.q3_ok : LT X0 68 1000003 Z4.q3.s Z4.q3.u :=
 cu hX Tryd.f68 (by kernel_rfl) (fun _ _ h => h) (D42 hX) nL (fun n v K => by kernel_rfl)
theorem Z4.q2_ok : LT X0 68 1000002 Z4.q2.s Z4.q2.u :=
 cu hX Tryd.f68 (by kernel_rfl) (fun _ _ h => h) (D42 hX) (oL (Z4.q3_ok hX) nL) (fun n v K => by kernel_rfl)
theorem qPh : CT X0 68 Z4.a Z4.u :=
 ct hX Tryd.f68 (by kernel_rfl) (fun _ _ h => h) (D42 hX) (oL (Z4.q2_ok hX) nL) (fun n v K => by kernel_rfl)
def D43 : CS X0 := oC (qPh hX) (D42 hX)
abbrev Z60.a : List TS := [.c (.o (.dat 4 .bool)), .c (.o .bool)]
def Z60.u (n : Nat) (v : VA Z60.a) (K : RES -> Prop) : Prop := Z60.c n v.1 v.2.1 (fun r0 => K ⟨.c (.int .i64 r0), []⟩)
abbrev Z60.l2.s : ST := ⟨[(0, .c (.o (.dat 4 .bool))), (1, .c (.o .bool)), (7, .c (.o (.int .i64))), (8, .c (.o (.int .i64)))], [], [], [], []⟩
def Z60.l2.u (n : Nat) (v : Z60.l2.s.V) (K : X -> St -> Prop) : Prop := Z60.l2 n v.1.1 v.1.2.1 v.1.2.2.1 v.1.2.2.2.1 (K (.exit 0) ⟨[], [], [], [], []⟩) (fun y0 => K .ret ⟨[(4, .c (.int .i64 y0))], [], [], [], []⟩)
theorem Z60.l2_ok : LT X0 76 2 Z60.l2.s Z60.l2.u :=
 lt hX Tryd.f76 (by kernel_rfl) (fun _ _ h => h) (D43 hX) nL (fun n v K => by kernel_rfl)
theorem qNl : CT X0 76 Z60.a Z60.u :=
 ct hX Tryd.f76 (by kernel_rfl) (fun _ _ h => h) (D43 hX) (oL (Z60.l2_ok hX) nL) (fun n v K => by kernel_rfl)
def D44 : CS X0 := oC (qNl hX) (D43 hX)
abbrev Z58.a : List TS := [.c (.o (.dat 4 .bool)), .c (.o .bool)]
def Z58.u (n : Nat) (v : VA Z58.a) (K : RES -> Prop) : Prop := Z58.c n v.1 v.2.1 (fun r0 => K ⟨.c (.bool r0), []⟩)
theorem qNp : CT X0 69 Z58.a Z58.u :=
 ct hX Tryd.f69 (by kernel_rfl) (fun _ _ h => h) (D44 hX) nL (fun n v K => by kernel_rfl)
def D45 : CS X0 := oC (qNp hX) (D44 hX)
abbrev Z20.a : List TS := [.c (.o (.dat 48 Y5)), .a [.o (.dat 65 Y1)]]
def Z20.u (n : Nat) (v : VA Z20.a) (K : RES -> Prop) : Prop := Z20.c n v.1 v.2.1.1 (fun r0 r1 => K ⟨.tup [.c (.row ⟨2, .int .i64, r0, 99, none, []⟩), .c (.bool r1)], []⟩)
abbrev Z20.l13.s : ST := ⟨[(0, .c (.o (.dat 48 Y5))), (3, .c (.o (.pbox 3 0))), (6, .c (.o (.int .i64))), (7, .c (.o (.own 768))), (8, .c (.o (.own 832))), (9, .c (.o (.int .i64))), (10, .c (.o (.pdat 65 Y1 0))), (11, .c (.o (.own 1536))), (29, .c (.o (.int .i64))), (30, .c (.o (.int .i64))), (52, .c (.o (.dat 2 (.int .i64)))), (53, .c (.o (.int .i64))), (54, .c (.o (.int .i64)))], [⟨768, 2, .int .i64, 99, .row⟩, ⟨832, 4, .bool, 99, .row⟩, ⟨1536, 2, .int .i64, 99, .row⟩], [⟨3, 30, [.o (.dat 65 Y1)], false, false⟩], [], []⟩
def Z20.l13.u (n : Nat) (v : Z20.l13.s.V) (K : X -> St -> Prop) : Prop := Z20.l13 n v.1.1 v.1.2.2.1 v.1.2.2.2.2.2.1 v.1.2.2.2.2.2.2.1 v.1.2.2.2.2.2.2.2.2.1 v.1.2.2.2.2.2.2.2.2.2.1 v.1.2.2.2.2.2.2.2.2.2.2.1 v.1.2.2.2.2.2.2.2.2.2.2.2.1 v.2.1.1 v.2.2.1.1 v.1.2.2.2.2.2.2.2.2.2.2.2.2.1 v.2.1.2.1 v.2.1.2.2.1 (fun y0 y1 y2 y3 y4 y5 y6 y7 y8 y9 => K (.exit 2) ⟨[(0, .c (.dat 48 Y5 y0)), (3, .c (.pbox 3 0)), (6, .c (.int .i64 y1)), (7, .c (.own 768)), (8, .c (.own 832)), (9, .c (.int .i64 y2)), (10, .c (.pdat 65 Y1 y3 0)), (11, .c (.own 1536)), (29, .c (.int .i64 y4)), (30, .c (.int .i64 y5))], [(768, ⟨2, .int .i64, y6, 99, none, []⟩), (832, ⟨4, .bool, y7, 99, none, []⟩), (1536, ⟨2, .int .i64, y8, 99, none, []⟩)], [(3, ⟨30, [.dat 65 Y1 y9], false, false⟩)], [], []⟩) (fun y0 y1 => K .ret ⟨[(4, .c (.own 128)), (5, .c (.bool y0))], [(128, ⟨2, .int .i64, y1, 99, none, []⟩)], [], [], []⟩)
abbrev Z20.l6.s : ST := ⟨[(0, .c (.o (.dat 48 Y5))), (3, .c (.o (.pbox 3 0))), (6, .c (.o (.int .i64))), (7, .c (.o (.own 768))), (8, .c (.o (.own 832))), (29, .c (.o (.int .i64))), (30, .c (.o (.int .i64)))], [⟨768, 2, .int .i64, 99, .row⟩, ⟨832, 4, .bool, 99, .row⟩], [⟨3, 30, [.o (.dat 65 Y1)], false, false⟩], [], []⟩
def Z20.l6.u (n : Nat) (v : Z20.l6.s.V) (K : X -> St -> Prop) : Prop := Z20.l6 n v.1.1 v.1.2.2.1 v.1.2.2.2.2.2.1 v.1.2.2.2.2.2.2.1 v.2.1.1 v.2.1.2.1 v.2.2.1.1 (fun y0 y1 y2 => K (.exit 0) ⟨[(6, .c (.int .i64 y0)), (7, .c (.own 768)), (8, .c (.own 832))], [(768, ⟨2, .int .i64, y1, 99, none, []⟩), (832, ⟨4, .bool, y2, 99, none, []⟩)], [], [], []⟩) (fun y0 y1 => K .ret ⟨[(4, .c (.own 128)), (5, .c (.bool y0))], [(128, ⟨2, .int .i64, y1, 99, none, []⟩)], [], [], []⟩)
theorem Z20.l13_ok : LT X0 55 13 Z20.l13.s Z20.l13.u :=
 lt hX Tryd.f55 (by kernel_rfl) (fun _ _ h => h) (D45 hX) nL (fun n v K => by kernel_rfl)
theorem Z20.l6_ok : LT X0 55 6 Z20.l6.s Z20.l6.u :=
 lt hX Tryd.f55 (by kernel_rfl) (fun _ _ h => h) (D45 hX) (oL (Z20.l13_ok hX) nL) (fun n v K => by kernel_rfl)
theorem qOx : CT X0 55 Z20.a Z20.u :=
 ct hX Tryd.f55 (by kernel_rfl) (fun _ _ h => h) (D45 hX) (oL (Z20.l6_ok hX) nL) (fun n v K => by kernel_rfl)
def D46 : CS X0 := oC (qOx hX) (D45 hX)
abbrev Z19.a : List TS := [.c (.o (.dat 48 Y5)), .a [.o (.dat 65 Y1)]]
def Z19.u (n : Nat) (v : VA Z19.a) (K : RES -> Prop) : Prop := Z19.c n v.1 v.2.1.1 (fun r0 => K ⟨.c (.int .i64 r0), []⟩)
theorem qOy : CT X0 34 Z19.a Z19.u :=
 ct hX Tryd.f34 (by kernel_rfl) (fun _ _ h => h) (D46 hX) nL (fun n v K => by kernel_rfl)
def D47 : CS X0 := oC (qOy hX) (D46 hX)
abbrev Z6.a : List TS := [.c (.o (.dat 48 Y5)), .a [.o (.dat 65 Y1)]]
def Z6.u (n : Nat) (v : VA Z6.a) (K : RES -> Prop) : Prop := Z6.c n v.1 v.2.1.1 (fun r0 => K ⟨.c (.int .i64 r0), []⟩)
theorem qPf : CT X0 21 Z6.a Z6.u :=
 ct hX Tryd.f21 (by kernel_rfl) (fun _ _ h => h) (D47 hX) nL (fun n v K => by kernel_rfl)
def D48 : CS X0 := oC (qPf hX) (D47 hX)
abbrev Z17.a : List TS := []
def Z17.u (n : Nat) (v : VA Z17.a) (K : RES -> Prop) : Prop := Z17.c n  (fun r0 r1 => K ⟨.c (.boxr 91 [.row ⟨65, .prod (.int .i64) Y2, r0, 99, none, []⟩, .row ⟨0, .prod .str (.int .i64), [], 99, some (0, jZ), r1⟩]), []⟩)
theorem qOA : CT X0 35 Z17.a Z17.u :=
 ct hX Tryd.f35 (by kernel_rfl) (fun _ _ h => h) (D48 hX) nL (fun n v K => by kernel_rfl)
def D49 : CS X0 := oC (qOA hX) (D48 hX)
end
end Go.Vsi
end

section
namespace Go.Vsi
open Go.Proofs
section
variable (hX : CallF.Mono X0)
include hX
abbrev Z78.a : List TS := [.c (.o (.int .i64)), .c (.o (.int .i64))]
def Z78.u (n : Nat) (v : VA Z78.a) (K : RES -> Prop) : Prop := Z78.c n v.1 v.2.1 (fun r0 => K ⟨.c (.str r0), []⟩)
omit hX in
theorem qL5 : CT X0 77 Z78.a Z78.u :=
 qJ0 (C := C) (X0 := X0) (g := 77) (by kernel_rfl) (B := qKP) qOI (A := Z78.a) (u := Z78.u) (fun v K h => h) (fun n v K => by kernel_rfl)
set_option linter.unusedSectionVars false in
theorem qM3 : CT X0 77 Z78.a Z78.u := qL5
def D50 : CS X0 := oC (qM3 hX) (D49 hX)
abbrev Z7.a : List TS := [.a [.o (.int .i64), .o (.dat 94 (.int .u64))]]
def Z7.u (n : Nat) (v : VA Z7.a) (K : RES -> Prop) : Prop := Z7.c n v.1.1 v.1.2.1 (fun r0 => K ⟨.c (.str r0), []⟩)
abbrev Z7.l8.s : ST := ⟨[(1, .c (.o (.pbox 1 0))), (3, .c (.o (.int .i64))), (5, .c (.o (.own 160))), (6, .c (.o (.int .i64)))], [⟨160, 5, .int .u8, 99, .row⟩], [⟨1, 63, [.o (.int .i64), .o (.dat 94 (.int .u64))], false, false⟩], [], []⟩
def Z7.l8.u (n : Nat) (v : Z7.l8.s.V) (K : X -> St -> Prop) : Prop := Z7.l8 n v.1.2.1 v.2.2.1.1 v.2.2.1.2.1 v.1.2.2.2.1 v.2.1.1 (fun y0 => K (.exit 0) ⟨[(5, .c (.own 160))], [(160, ⟨5, .int .u8, y0, 99, none, []⟩)], [], [], []⟩)
theorem Z7.l8_ok : LT X0 78 8 Z7.l8.s Z7.l8.u :=
 lt hX Tryd.f78 (by kernel_rfl) (fun _ _ h => h) (D50 hX) nL (fun n v K => by kernel_rfl)
theorem qPe : CT X0 78 Z7.a Z7.u :=
 ct hX Tryd.f78 (by kernel_rfl) (fun _ _ h => h) (D50 hX) (oL (Z7.l8_ok hX) nL) (fun n v K => by kernel_rfl)
def D51 : CS X0 := oC (qPe hX) (D50 hX)
abbrev Z3.a : List TS := [.c (.o (.pdat 65 Y1 0))]
def Z3.u (n : Nat) (v : VA Z3.a) (K : RES -> Prop) : Prop := Z3.c n v.1 (fun r0 => K ⟨.c (.str r0), []⟩)
abbrev Z3.l3.s : ST := ⟨[(3, .c (.o .str)), (42, .c (.o (.dat 2 (.int .i64)))), (43, .c (.o (.int .i64))), (44, .c (.o (.int .i64)))], [], [], [], []⟩
def Z3.l3.u (n : Nat) (v : Z3.l3.s.V) (K : X -> St -> Prop) : Prop := Z3.l3 n v.1.2.1 v.1.2.2.1 v.1.1 v.1.2.2.2.1 (fun y0 => K (.exit 0) ⟨[(3, .c (.str y0))], [], [], [], []⟩)
theorem Z3.l3_ok : LT X0 70 3 Z3.l3.s Z3.l3.u :=
 lt hX Tryd.f70 (by kernel_rfl) (fun _ _ h => h) (D51 hX) nL (fun n v K => by kernel_rfl)
theorem qPi : CT X0 70 Z3.a Z3.u :=
 ct hX Tryd.f70 (by kernel_rfl) (fun _ _ h => h) (D51 hX) (oL (Z3.l3_ok hX) nL) (fun n v K => by kernel_rfl)
def D52 : CS X0 := oC (qPi hX) (D51 hX)
abbrev Z57.a : List TS := [.c (.o (.dat 94 (.int .u64)))]
def Z57.u (n : Nat) (v : VA Z57.a) (K : RES -> Prop) : Prop := Z57.c n v.1 (fun r0 => K ⟨.c (.row ⟨94, .int .u64, r0, 99, none, []⟩), []⟩)
theorem qNr : CT X0 83 Z57.a Z57.u :=
 ct hX Tryd.f83 (by kernel_rfl) (fun _ _ h => h) (D52 hX) nL (fun n v K => by kernel_rfl)
def D53 : CS X0 := oC (qNr hX) (D52 hX)
abbrev Z11.a : List TS := [.a [.o (.int .i64), .o (.dat 94 (.int .u64))]]
def Z11.u (n : Nat) (v : VA Z11.a) (K : RES -> Prop) : Prop := Z11.c n v.1.1 v.1.2.1 (fun r0 r1 => K ⟨.agg [.int .i64 r0, .row ⟨94, .int .u64, r1, 99, none, []⟩], []⟩)
theorem qOG : CT X0 79 Z11.a Z11.u :=
 ct hX Tryd.f79 (by kernel_rfl) (fun _ _ h => h) (D53 hX) nL (fun n v K => by kernel_rfl)
def D54 : CS X0 := oC (qOG hX) (D53 hX)
abbrev Z56.a : List TS := [.c (.o (.dat 2 (.int .i64)))]
def Z56.u (n : Nat) (v : VA Z56.a) (K : RES -> Prop) : Prop := Z56.c n v.1 (fun r0 => K ⟨.c (.row ⟨2, .int .i64, r0, 99, none, []⟩), []⟩)
theorem qNs : CT X0 80 Z56.a Z56.u :=
 ct hX Tryd.f80 (by kernel_rfl) (fun _ _ h => h) (D54 hX) nL (fun n v K => by kernel_rfl)
def D55 : CS X0 := oC (qNs hX) (D54 hX)
abbrev Z12.a : List TS := [.a [.o (.int .i64), .o (.int .i64), .o (.int .i64), .o (.int .i64), .o (.int .i64), .o (.dat 94 (.int .u64)), .o (.dat 2 (.int .i64))]]
def Z12.u (n : Nat) (v : VA Z12.a) (K : RES -> Prop) : Prop := Z12.c n v.1.1 v.1.2.1 v.1.2.2.1 v.1.2.2.2.1 v.1.2.2.2.2.1 v.1.2.2.2.2.2.1 v.1.2.2.2.2.2.2.1 (fun r0 r1 r2 r3 r4 r5 r6 => K ⟨.agg [.int .i64 r0, .int .i64 r1, .int .i64 r2, .int .i64 r3, .int .i64 r4, .row ⟨94, .int .u64, r5, 99, none, []⟩, .row ⟨2, .int .i64, r6, 99, none, []⟩], []⟩)
theorem qOF : CT X0 71 Z12.a Z12.u :=
 ct hX Tryd.f71 (by kernel_rfl) (fun _ _ h => h) (D55 hX) nL (fun n v K => by kernel_rfl)
def D56 : CS X0 := oC (qOF hX) (D55 hX)
abbrev Z8.a : List TS := [.c (.boxr 91 [.row 65 Y1 99, .mrow 0 Y5 99]), .a [.o (.int .i64), .o (.int .i64), .o (.int .i64), .o (.int .i64), .o (.int .i64), .o (.dat 94 (.int .u64)), .o (.dat 2 (.int .i64))]]
def Z8.u (n : Nat) (v : VA Z8.a) (K : RES -> Prop) : Prop := Z8.c n v.1.1 v.1.2.1 v.2.1.1 v.2.1.2.1 v.2.1.2.2.1 v.2.1.2.2.2.1 v.2.1.2.2.2.2.1 v.2.1.2.2.2.2.2.1 v.2.1.2.2.2.2.2.2.1 (fun r0 r1 r2 => K ⟨.c (.int .i64 r0), [[.boxr 91 [.row ⟨65, .prod (.int .i64) Y2, r1, 99, none, []⟩, .row ⟨0, .prod .str (.int .i64), [], 99, some (0, jZ), r2⟩]]]⟩)
theorem qPd : CT X0 56 Z8.a Z8.u :=
 ct hX Tryd.f56 (by kernel_rfl) (fun _ _ h => h) (D56 hX) nL (fun n v K => by kernel_rfl)
def D57 : CS X0 := oC (qPd hX) (D56 hX)
abbrev Z9.a : List TS := [.c (.boxr 91 [.row 65 Y1 99, .mrow 0 Y5 99]), .a [.o (.dat 65 Y1)], .c (.o (.int .i64)), .c (.o (.int .i64))]
def Z9.u (n : Nat) (v : VA Z9.a) (K : RES -> Prop) : Prop := Z9.c n v.1.1 v.1.2.1 v.2.1.1 v.2.2.1 v.2.2.2.1 (fun r0 r1 r2 => K ⟨.c (.row ⟨2, .int .i64, r0, 99, none, []⟩), [[.boxr 91 [.row ⟨65, .prod (.int .i64) Y2, r1, 99, none, []⟩, .row ⟨0, .prod .str (.int .i64), [], 99, some (0, jZ), r2⟩]]]⟩)
abbrev Z9.l9.s : ST := ⟨[(0, .c (.o (.pbox 0 0))), (2, .c (.o (.int .i64))), (3, .c (.o (.int .i64))), (9, .c (.o (.own 576))), (10, .c (.o (.int .i64))), (11, .c (.o (.pbox 11 0))), (12, .c (.o (.own 1376))), (20, .c (.o (.dat 65 Y1))), (21, .c (.o (.int .i64))), (22, .c (.o (.int .i64))), (45, .c (.o (.dat 2 (.int .i64)))), (46, .c (.o (.int .i64))), (47, .c (.o (.int .i64)))], [⟨576, 2, .int .i64, 99, .row⟩, ⟨1376, 2, .int .i64, 99, .row⟩, ⟨1000000, 65, .prod (.int .i64) Y2, 99, .row⟩, ⟨1000001, 0, .prod .str (.int .i64), 99, .map⟩], [⟨0, 91, [.o (.own 1000000), .o (.own 1000001)], false, false⟩, ⟨11, 65, [.o (.int .i64), .o (.int .i64), .o (.int .i64), .o (.int .i64), .o (.int .i64), .o (.dat 94 (.int .u64)), .o (.dat 2 (.int .i64))], false, false⟩], [], [0]⟩
def Z9.l9.u (n : Nat) (v : Z9.l9.s.V) (K : X -> St -> Prop) : Prop := Z9.l9 n v.1.2.1 v.1.2.2.1 v.1.2.2.2.2.1 v.1.2.2.2.2.2.2.2.1 v.1.2.2.2.2.2.2.2.2.1 v.1.2.2.2.2.2.2.2.2.2.1 v.1.2.2.2.2.2.2.2.2.2.2.1 v.1.2.2.2.2.2.2.2.2.2.2.2.1 v.2.1.1 v.2.1.2.2.1 v.2.1.2.2.2.1 v.2.2.2.1.1 v.2.2.2.1.2.1 v.2.2.2.1.2.2.1 v.2.2.2.1.2.2.2.1 v.2.2.2.1.2.2.2.2.1 v.2.2.2.1.2.2.2.2.2.1 v.2.2.2.1.2.2.2.2.2.2.1 v.1.2.2.2.2.2.2.2.2.2.2.2.2.1 v.2.1.2.1 (fun y0 y1 y2 y3 y4 y5 y6 y7 y8 y9 y10 y11 y12 y13 y14 y15 y16 => K (.exit 2) ⟨[(0, .c (.pbox 0 0)), (2, .c (.int .i64 y0)), (3, .c (.int .i64 y1)), (9, .c (.own 576)), (10, .c (.int .i64 y2)), (11, .c (.pbox 11 0)), (12, .c (.own 1376)), (20, .c (.dat 65 Y1 y3)), (21, .c (.int .i64 y4)), (22, .c (.int .i64 y5))], [(576, ⟨2, .int .i64, y6, 99, none, []⟩), (1376, ⟨2, .int .i64, y7, 99, none, []⟩), (1000000, ⟨65, .prod (.int .i64) Y2, y8, 99, none, []⟩), (1000001, ⟨0, .prod .str (.int .i64), [], 99, some (0, jZ), y9⟩)], [(0, ⟨91, [.own 1000000, .own 1000001], false, false⟩), (11, ⟨65, [.int .i64 y10, .int .i64 y11, .int .i64 y12, .int .i64 y13, .int .i64 y14, .dat 94 (.int .u64) y15, .dat 2 (.int .i64) y16], false, false⟩)], [], [0]⟩)
abbrev Z9.l3.s : ST := ⟨[(0, .c (.o (.pbox 0 0))), (2, .c (.o (.int .i64))), (3, .c (.o (.int .i64))), (9, .c (.o (.own 576))), (20, .c (.o (.dat 65 Y1))), (21, .c (.o (.int .i64))), (22, .c (.o (.int .i64)))], [⟨576, 2, .int .i64, 99, .row⟩, ⟨1000000, 65, .prod (.int .i64) Y2, 99, .row⟩, ⟨1000001, 0, .prod .str (.int .i64), 99, .map⟩], [⟨0, 91, [.o (.own 1000000), .o (.own 1000001)], false, false⟩], [], [0]⟩
def Z9.l3.u (n : Nat) (v : Z9.l3.s.V) (K : X -> St -> Prop) : Prop := Z9.l3 n v.1.2.1 v.1.2.2.1 v.1.2.2.2.2.1 v.1.2.2.2.2.2.1 v.1.2.2.2.2.2.2.1 v.2.1.1 v.2.1.2.1 v.2.1.2.2.1 (fun y0 y1 y2 => K (.exit 0) ⟨[(9, .c (.own 576))], [(576, ⟨2, .int .i64, y0, 99, none, []⟩), (1000000, ⟨65, .prod (.int .i64) Y2, y1, 99, none, []⟩), (1000001, ⟨0, .prod .str (.int .i64), [], 99, some (0, jZ), y2⟩)], [(0, ⟨91, [.own 1000000, .own 1000001], false, false⟩)], [], [0]⟩)
theorem Z9.l9_ok : LT X0 36 9 Z9.l9.s Z9.l9.u :=
 lt hX Tryd.f36 (by kernel_rfl) (fun _ _ h => h) (D57 hX) nL (fun n v K => by kernel_rfl)
theorem Z9.l3_ok : LT X0 36 3 Z9.l3.s Z9.l3.u :=
 lt hX Tryd.f36 (by kernel_rfl) (fun _ _ h => h) (D57 hX) (oL (Z9.l9_ok hX) nL) (fun n v K => by kernel_rfl)
theorem qPc : CT X0 36 Z9.a Z9.u :=
 ct hX Tryd.f36 (by kernel_rfl) (fun _ _ h => h) (D57 hX) (oL (Z9.l3_ok hX) nL) (fun n v K => by kernel_rfl)
def D58 : CS X0 := oC (qPc hX) (D57 hX)
abbrev Z10.a : List TS := [.c (.boxr 91 [.row 65 Y1 99, .mrow 0 Y5 99]), .c (.o (.int .i64))]
def Z10.u (n : Nat) (v : VA Z10.a) (K : RES -> Prop) : Prop := Z10.c n v.1.1 v.1.2.1 v.2.1 (fun r0 => K ⟨.agg [.row ⟨65, .prod (.int .i64) Y2, r0, 99, none, []⟩], []⟩)
abbrev Z10.l8.s : ST := ⟨[(0, .c (.o (.pbox 0 0))), (4, .c (.o (.pbox 4 0))), (5, .c (.o (.own 640))), (6, .c (.o (.int .i64))), (40, .c (.o (.nref 1000000 6))), (41, .c (.o (.int .i64))), (42, .c (.o (.int .i64)))], [⟨640, 4, .bool, 99, .row⟩, ⟨1000000, 65, .prod (.int .i64) Y2, 99, .row⟩, ⟨1000001, 0, .prod .str (.int .i64), 99, .map⟩, ⟨1000128, 65, .prod (.int .i64) Y2, 99, .row⟩], [⟨0, 91, [.o (.own 1000000), .o (.own 1000001)], false, false⟩, ⟨4, 30, [.o (.own 1000128)], false, false⟩], [], []⟩
def Z10.l8.u (n : Nat) (v : Z10.l8.s.V) (K : X -> St -> Prop) : Prop := Z10.l8 n v.1.2.2.2.1 v.1.2.2.2.2.1 v.1.2.2.2.2.2.1 v.2.1.2.1 v.2.1.2.2.1 v.2.1.2.2.2.1 v.1.2.2.2.2.2.2.1 v.2.1.1 (fun y0 y1 y2 y3 y4 => K (.exit 2) ⟨[(0, .c (.pbox 0 0)), (4, .c (.pbox 4 0)), (5, .c (.own 640)), (6, .c (.int .i64 y0))], [(640, ⟨4, .bool, y1, 99, none, []⟩), (1000000, ⟨65, .prod (.int .i64) Y2, y2, 99, none, []⟩), (1000001, ⟨0, .prod .str (.int .i64), [], 99, some (0, jZ), y3⟩), (1000128, ⟨65, .prod (.int .i64) Y2, y4, 99, none, []⟩)], [(0, ⟨91, [.own 1000000, .own 1000001], false, false⟩), (4, ⟨30, [.own 1000128], false, false⟩)], [], []⟩)
abbrev Z10.l4.s : ST := ⟨[(0, .c (.o (.pbox 0 0))), (4, .c (.o (.pbox 4 0))), (5, .c (.o (.own 640))), (6, .c (.o (.int .i64)))], [⟨640, 4, .bool, 99, .row⟩, ⟨1000000, 65, .prod (.int .i64) Y2, 99, .row⟩, ⟨1000001, 0, .prod .str (.int .i64), 99, .map⟩, ⟨1000128, 65, .prod (.int .i64) Y2, 99, .row⟩], [⟨0, 91, [.o (.own 1000000), .o (.own 1000001)], false, false⟩, ⟨4, 30, [.o (.own 1000128)], false, false⟩], [], []⟩
def Z10.l4.u (n : Nat) (v : Z10.l4.s.V) (K : X -> St -> Prop) : Prop := Z10.l4 n v.1.2.2.2.1 v.2.1.1 v.2.1.2.1 v.2.1.2.2.1 v.2.1.2.2.2.1 (fun y0 y1 y2 y3 => K (.exit 0) ⟨[(0, .c (.pbox 0 0)), (4, .c (.pbox 4 0)), (5, .c (.own 640))], [(640, ⟨4, .bool, y0, 99, none, []⟩), (1000000, ⟨65, .prod (.int .i64) Y2, y1, 99, none, []⟩), (1000001, ⟨0, .prod .str (.int .i64), [], 99, some (0, jZ), y2⟩), (1000128, ⟨65, .prod (.int .i64) Y2, y3, 99, none, []⟩)], [(0, ⟨91, [.own 1000000, .own 1000001], false, false⟩), (4, ⟨30, [.own 1000128], false, false⟩)], [], []⟩)
abbrev Z10.l20.s : ST := ⟨[(4, .c (.o (.pbox 4 0))), (5, .c (.o (.own 640))), (9, .c (.o (.own 1760))), (10, .c (.o (.pbox 10 0))), (12, .c (.o (.pbox 12 0))), (60, .c (.o (.own 1000000))), (61, .c (.o (.int .i64))), (62, .c (.o (.int .i64))), (79, .c (.o (.own 2118))), (80, .c (.o (.int .i64))), (81, .c (.o (.int .i64)))], [⟨640, 4, .bool, 99, .row⟩, ⟨1760, 2, .int .i64, 99, .row⟩, ⟨2117, 94, .int .u64, 98, .row⟩, ⟨2118, 2, .int .i64, 98, .row⟩, ⟨1000000, 65, .prod (.int .i64) Y2, 99, .fz⟩, ⟨1000128, 65, .prod (.int .i64) Y2, 99, .row⟩, ⟨1000320, 65, .prod (.int .i64) Y2, 99, .row⟩], [⟨4, 30, [.o (.own 1000128)], false, false⟩, ⟨10, 30, [.o (.own 1000320)], false, false⟩, ⟨12, 65, [.o (.int .i64), .o (.int .i64), .o (.int .i64), .o (.int .i64), .o (.int .i64), .o (.own 2117), .o (.own 2118)], false, false⟩], [], []⟩
def Z10.l20.u (n : Nat) (v : Z10.l20.s.V) (K : X -> St -> Prop) : Prop := Z10.l20 n v.1.2.2.2.2.2.2.1 v.1.2.2.2.2.2.2.2.1 v.1.2.2.2.2.2.2.2.2.2.1 v.2.1.1 v.2.1.2.1 v.2.1.2.2.1 v.2.1.2.2.2.2.1.2 v.2.1.2.2.2.2.1.1 v.2.1.2.2.2.2.2.1 v.2.1.2.2.2.2.2.2.1 v.2.2.2.2.1.1 v.2.2.2.2.1.2.1 v.2.2.2.2.1.2.2.1 v.2.2.2.2.1.2.2.2.1 v.2.2.2.2.1.2.2.2.2.1 v.1.2.2.2.2.2.2.2.2.2.2.1 v.2.1.2.2.2.1 (fun y0 y1 y2 y3 y4 y5 y6 y7 y8 y9 y10 y11 y12 y13 y14 => K (.exit 6) ⟨[(4, .c (.pbox 4 0)), (5, .c (.own 640)), (9, .c (.own 1760)), (10, .c (.pbox 10 0)), (12, .c (.pbox 12 0)), (60, .c (.own 1000000)), (61, .c (.int .i64 y0)), (62, .c (.int .i64 y1))], [(640, ⟨4, .bool, y2, 99, none, []⟩), (1760, ⟨2, .int .i64, y3, 99, none, []⟩), (2117, ⟨94, .int .u64, y4, 98, none, []⟩), (2118, ⟨2, .int .i64, y5, 98, none, []⟩), (1000000, ⟨65, .prod (.int .i64) Y2, y6, 99, some (y7, 1000000008), []⟩), (1000128, ⟨65, .prod (.int .i64) Y2, y8, 99, none, []⟩), (1000320, ⟨65, .prod (.int .i64) Y2, y9, 99, none, []⟩)], [(4, ⟨30, [.own 1000128], false, false⟩), (10, ⟨30, [.own 1000320], false, false⟩), (12, ⟨65, [.int .i64 y10, .int .i64 y11, .int .i64 y12, .int .i64 y13, .int .i64 y14, .own 2117, .own 2118], false, false⟩)], [], []⟩)
abbrev Z10.l15.s : ST := ⟨[(4, .c (.o (.pbox 4 0))), (5, .c (.o (.own 640))), (9, .c (.o (.own 1760))), (10, .c (.o (.pbox 10 0))), (60, .c (.o (.own 1000000))), (61, .c (.o (.int .i64))), (62, .c (.o (.int .i64)))], [⟨640, 4, .bool, 99, .row⟩, ⟨1760, 2, .int .i64, 99, .row⟩, ⟨1000000, 65, .prod (.int .i64) Y2, 99, .fz⟩, ⟨1000128, 65, .prod (.int .i64) Y2, 99, .row⟩, ⟨1000320, 65, .prod (.int .i64) Y2, 99, .row⟩], [⟨4, 30, [.o (.own 1000128)], false, false⟩, ⟨10, 30, [.o (.own 1000320)], false, false⟩], [], []⟩
def Z10.l15.u (n : Nat) (v : Z10.l15.s.V) (K : X -> St -> Prop) : Prop := Z10.l15 n v.1.2.2.2.2.2.1 v.1.2.2.2.2.2.2.1 v.2.1.1 v.2.1.2.1 v.2.1.2.2.1.2 v.2.1.2.2.1.1 v.2.1.2.2.2.1 v.2.1.2.2.2.2.1 (fun y0 y1 => K (.exit 4) ⟨[(4, .c (.pbox 4 0)), (10, .c (.pbox 10 0))], [(1000128, ⟨65, .prod (.int .i64) Y2, y0, 99, none, []⟩), (1000320, ⟨65, .prod (.int .i64) Y2, y1, 99, none, []⟩)], [(4, ⟨30, [.own 1000128], false, false⟩), (10, ⟨30, [.own 1000320], false, false⟩)], [], []⟩)
theorem Z10.l8_ok : LT X0 37 8 Z10.l8.s Z10.l8.u :=
 lt hX Tryd.f37 (by kernel_rfl) (fun _ _ h => h) (D58 hX) nL (fun n v K => by kernel_rfl)
theorem Z10.l4_ok : LT X0 37 4 Z10.l4.s Z10.l4.u :=
 lt hX Tryd.f37 (by kernel_rfl) (fun _ _ h => h) (D58 hX) (oL (Z10.l8_ok hX) nL) (fun n v K => by kernel_rfl)
theorem Z10.l20_ok : LT X0 37 20 Z10.l20.s Z10.l20.u :=
 lt hX Tryd.f37 (by kernel_rfl) (fun _ _ h => h) (D58 hX) nL (fun n v K => by kernel_rfl)
theorem Z10.l15_ok : LT X0 37 15 Z10.l15.s Z10.l15.u :=
 lt hX Tryd.f37 (by kernel_rfl) (fun _ _ h => h) (D58 hX) (oL (Z10.l20_ok hX) nL) (fun n v K => by kernel_rfl)
theorem qOH : CT X0 37 Z10.a Z10.u :=
 ct hX Tryd.f37 (by kernel_rfl) (fun _ _ h => h) (D58 hX) (oL (Z10.l4_ok hX) (oL (Z10.l15_ok hX) nL)) (fun n v K => by kernel_rfl)
def D59 : CS X0 := oC (qOH hX) (D58 hX)
abbrev Z18.a : List TS := [.a [.o (.dat 65 Y1)]]
def Z18.u (n : Nat) (v : VA Z18.a) (K : RES -> Prop) : Prop := Z18.c n v.1.1 (fun r0 => K ⟨.agg [.row ⟨65, .prod (.int .i64) Y2, r0, 99, none, []⟩], []⟩)
theorem qOz : CT X0 22 Z18.a Z18.u :=
 ct hX Tryd.f22 (by kernel_rfl) (fun _ _ h => h) (D59 hX) nL (fun n v K => by kernel_rfl)
def D60 : CS X0 := oC (qOz hX) (D59 hX)
abbrev Z2.a : List TS := [.c (.o (.dat 48 Y5)), .a [.o (.dat 65 Y1)]]
def Z2.u (n : Nat) (v : VA Z2.a) (K : RES -> Prop) : Prop := Z2.c n v.1 v.2.1.1 (fun r0 => K ⟨.agg [.row ⟨65, .prod (.int .i64) Y2, r0, 99, none, []⟩], []⟩)
theorem qPj : CT X0 9 Z2.a Z2.u :=
 ct hX Tryd.f9 (by kernel_rfl) (fun _ _ h => h) (D60 hX) nL (fun n v K => by kernel_rfl)
def D61 : CS X0 := oC (qPj hX) (D60 hX)
abbrev Z29.a : List TS := [.c (.o (.dat 94 (.int .u64))), .c (.o (.dat 94 (.int .u64)))]
def Z29.u (n : Nat) (v : VA Z29.a) (K : RES -> Prop) : Prop := Z29.c n v.1 v.2.1 (fun r0 => K ⟨.c (.bool r0), []⟩)
abbrev Z29.l4.s : ST := ⟨[(0, .c (.o (.dat 94 (.int .u64)))), (1, .c (.o (.dat 94 (.int .u64)))), (5, .c (.o (.int .i64)))], [], [], [], []⟩
def Z29.l4.u (n : Nat) (v : Z29.l4.s.V) (K : X -> St -> Prop) : Prop := Z29.l4 n v.1.1 v.1.2.1 v.1.2.2.1 (K (.exit 0) ⟨[], [], [], [], []⟩) (fun y0 => K .ret ⟨[(4, .c (.bool y0))], [], [], [], []⟩)
theorem Z29.l4_ok : LT X0 72 4 Z29.l4.s Z29.l4.u :=
 lt hX Tryd.f72 (by kernel_rfl) (fun _ _ h => h) (D61 hX) nL (fun n v K => by kernel_rfl)
theorem qOh : CT X0 72 Z29.a Z29.u :=
 ct hX Tryd.f72 (by kernel_rfl) (fun _ _ h => h) (D61 hX) (oL (Z29.l4_ok hX) nL) (fun n v K => by kernel_rfl)
def D62 : CS X0 := oC (qOh hX) (D61 hX)
abbrev Z22.a : List TS := [.a [.o (.int .i64), .o (.dat 94 (.int .u64))], .a [.o (.int .i64), .o (.dat 94 (.int .u64))]]
def Z22.u (n : Nat) (v : VA Z22.a) (K : RES -> Prop) : Prop := Z22.c n v.1.1 v.1.2.1 v.2.1.1 v.2.1.2.1 (fun r0 => K ⟨.c (.bool r0), []⟩)
theorem qOu : CT X0 57 Z22.a Z22.u :=
 ct hX Tryd.f57 (by kernel_rfl) (fun _ _ h => h) (D62 hX) nL (fun n v K => by kernel_rfl)
def D63 : CS X0 := oC (qOu hX) (D62 hX)
abbrev Z25.a : List TS := [.c (.o (.dat 2 (.int .i64))), .c (.o (.dat 2 (.int .i64)))]
def Z25.u (n : Nat) (v : VA Z25.a) (K : RES -> Prop) : Prop := Z25.c n v.1 v.2.1 (fun r0 => K ⟨.c (.bool r0), []⟩)
abbrev Z25.l4.s : ST := ⟨[(0, .c (.o (.dat 2 (.int .i64)))), (1, .c (.o (.dat 2 (.int .i64)))), (5, .c (.o (.int .i64)))], [], [], [], []⟩
def Z25.l4.u (n : Nat) (v : Z25.l4.s.V) (K : X -> St -> Prop) : Prop := Z25.l4 n v.1.1 v.1.2.1 v.1.2.2.1 (K (.exit 0) ⟨[], [], [], [], []⟩) (fun y0 => K .ret ⟨[(4, .c (.bool y0))], [], [], [], []⟩)
theorem Z25.l4_ok : LT X0 58 4 Z25.l4.s Z25.l4.u :=
 lt hX Tryd.f58 (by kernel_rfl) (fun _ _ h => h) (D63 hX) nL (fun n v K => by kernel_rfl)
theorem qOo : CT X0 58 Z25.a Z25.u :=
 ct hX Tryd.f58 (by kernel_rfl) (fun _ _ h => h) (D63 hX) (oL (Z25.l4_ok hX) nL) (fun n v K => by kernel_rfl)
def D64 : CS X0 := oC (qOo hX) (D63 hX)
abbrev Z26.a : List TS := [.a [.o (.int .i64), .o (.int .i64), .o (.int .i64), .o (.int .i64), .o (.int .i64), .o (.dat 94 (.int .u64)), .o (.dat 2 (.int .i64))], .a [.o (.int .i64), .o (.int .i64), .o (.int .i64), .o (.int .i64), .o (.int .i64), .o (.dat 94 (.int .u64)), .o (.dat 2 (.int .i64))]]
def Z26.u (n : Nat) (v : VA Z26.a) (K : RES -> Prop) : Prop := Z26.c n v.1.1 v.1.2.1 v.1.2.2.1 v.1.2.2.2.1 v.1.2.2.2.2.1 v.1.2.2.2.2.2.1 v.1.2.2.2.2.2.2.1 v.2.1.1 v.2.1.2.1 v.2.1.2.2.1 v.2.1.2.2.2.1 v.2.1.2.2.2.2.1 v.2.1.2.2.2.2.2.1 v.2.1.2.2.2.2.2.2.1 (fun r0 => K ⟨.c (.bool r0), []⟩)
theorem qOm : CT X0 38 Z26.a Z26.u :=
 ct hX Tryd.f38 (by kernel_rfl) (fun _ _ h => h) (D64 hX) nL (fun n v K => by kernel_rfl)
def D65 : CS X0 := oC (qOm hX) (D64 hX)
abbrev Z27.a : List TS := [.c (.o (.dat 65 Y1)), .c (.o (.dat 65 Y1))]
def Z27.u (n : Nat) (v : VA Z27.a) (K : RES -> Prop) : Prop := Z27.c n v.1 v.2.1 (fun r0 => K ⟨.c (.bool r0), []⟩)
abbrev Z27.l4.s : ST := ⟨[(0, .c (.o (.dat 65 Y1))), (1, .c (.o (.dat 65 Y1))), (5, .c (.o (.int .i64)))], [], [], [], []⟩
def Z27.l4.u (n : Nat) (v : Z27.l4.s.V) (K : X -> St -> Prop) : Prop := Z27.l4 n v.1.1 v.1.2.1 v.1.2.2.1 (K (.exit 0) ⟨[], [], [], [], []⟩) (fun y0 => K .ret ⟨[(4, .c (.bool y0))], [], [], [], []⟩)
theorem Z27.l4_ok : LT X0 23 4 Z27.l4.s Z27.l4.u :=
 lt hX Tryd.f23 (by kernel_rfl) (fun _ _ h => h) (D65 hX) nL (fun n v K => by kernel_rfl)
theorem qOk : CT X0 23 Z27.a Z27.u :=
 ct hX Tryd.f23 (by kernel_rfl) (fun _ _ h => h) (D65 hX) (oL (Z27.l4_ok hX) nL) (fun n v K => by kernel_rfl)
def D66 : CS X0 := oC (qOk hX) (D65 hX)
abbrev Z28.a : List TS := [.a [.o (.dat 65 Y1)], .a [.o (.dat 65 Y1)]]
def Z28.u (n : Nat) (v : VA Z28.a) (K : RES -> Prop) : Prop := Z28.c n v.1.1 v.2.1.1 (fun r0 => K ⟨.c (.bool r0), []⟩)
theorem qOj : CT X0 10 Z28.a Z28.u :=
 ct hX Tryd.f10 (by kernel_rfl) (fun _ _ h => h) (D66 hX) nL (fun n v K => by kernel_rfl)
def D67 : CS X0 := oC (qOj hX) (D66 hX)
abbrev Z23.a : List TS := [.a [.o .str, .o (.int .i64)], .a [.o .str, .o (.int .i64)]]
def Z23.u (n : Nat) (v : VA Z23.a) (K : RES -> Prop) : Prop := Z23.c n v.1.1 v.1.2.1 v.2.1.1 v.2.1.2.1 (fun r0 => K ⟨.c (.bool r0), []⟩)
theorem qOs : CT X0 24 Z23.a Z23.u :=
 ct hX Tryd.f24 (by kernel_rfl) (fun _ _ h => h) (D67 hX) nL (fun n v K => by kernel_rfl)
def D68 : CS X0 := oC (qOs hX) (D67 hX)
abbrev Z24.a : List TS := [.c (.o (.dat 48 Y5)), .c (.o (.dat 48 Y5))]
def Z24.u (n : Nat) (v : VA Z24.a) (K : RES -> Prop) : Prop := Z24.c n v.1 v.2.1 (fun r0 => K ⟨.c (.bool r0), []⟩)
abbrev Z24.l4.s : ST := ⟨[(0, .c (.o (.dat 48 Y5))), (1, .c (.o (.dat 48 Y5))), (5, .c (.o (.int .i64)))], [], [], [], []⟩
def Z24.l4.u (n : Nat) (v : Z24.l4.s.V) (K : X -> St -> Prop) : Prop := Z24.l4 n v.1.1 v.1.2.1 v.1.2.2.1 (K (.exit 0) ⟨[], [], [], [], []⟩) (fun y0 => K .ret ⟨[(4, .c (.bool y0))], [], [], [], []⟩)
theorem Z24.l4_ok : LT X0 11 4 Z24.l4.s Z24.l4.u :=
 lt hX Tryd.f11 (by kernel_rfl) (fun _ _ h => h) (D68 hX) nL (fun n v K => by kernel_rfl)
theorem qOq : CT X0 11 Z24.a Z24.u :=
 ct hX Tryd.f11 (by kernel_rfl) (fun _ _ h => h) (D68 hX) (oL (Z24.l4_ok hX) nL) (fun n v K => by kernel_rfl)
def D69 : CS X0 := oC (qOq hX) (D68 hX)
abbrev Z38.a : List TS := [.c (.o (.int .i64))]
def Z38.u (n : Nat) (v : VA Z38.a) (K : RES -> Prop) : Prop := Z38.c n v.1 (fun r0 => K ⟨.c (.str r0), []⟩)
abbrev Z38.l4.s : ST := ⟨[(0, .c (.o (.int .i64))), (3, .c (.o .str))], [], [], [], []⟩
def Z38.l4.u (n : Nat) (v : Z38.l4.s.V) (K : X -> St -> Prop) : Prop := Z38.l4 n v.1.1 v.1.2.1 (fun y0 => K (.exit 0) ⟨[(3, .c (.str y0))], [], [], [], []⟩)
theorem Z38.l4_ok : LT X0 25 4 Z38.l4.s Z38.l4.u :=
 lt hX Tryd.f25 (by kernel_rfl) (fun _ _ h => h) (D69 hX) nL (fun n v K => by kernel_rfl)
theorem qN1 : CT X0 25 Z38.a Z38.u :=
 ct hX Tryd.f25 (by kernel_rfl) (fun _ _ h => h) (D69 hX) (oL (Z38.l4_ok hX) nL) (fun n v K => by kernel_rfl)
def D70 : CS X0 := oC (qN1 hX) (D69 hX)
abbrev Z34.a : List TS := [.c (.o (.row 48 Y5 99)), .c (.o (.int .i64))]
def Z34.u (n : Nat) (v : VA Z34.a) (K : RES -> Prop) : Prop := Z34.c n v.1 v.2.1 (fun r0 r1 => K ⟨.c (.int .i64 r0), [[.row ⟨48, .prod .str (.int .i64), r1, 99, none, []⟩]]⟩)
abbrev Z34.l2.s : ST := ⟨[(0, .c (.o (.own 0))), (1, .c (.o (.int .i64))), (5, .c (.o (.int .i64)))], [⟨0, 48, .prod .str (.int .i64), 99, .row⟩], [], [0], []⟩
def Z34.l2.u (n : Nat) (v : Z34.l2.s.V) (K : X -> St -> Prop) : Prop := Z34.l2 n v.1.2.1 v.1.2.2.1 v.2.1.1 (fun y0 y1 => K (.exit 0) ⟨[(1, .c (.int .i64 y0))], [(0, ⟨48, .prod .str (.int .i64), y1, 99, none, []⟩)], [], [0], []⟩)
theorem Z34.l2_ok : LT X0 12 2 Z34.l2.s Z34.l2.u :=
 lt hX Tryd.f12 (by kernel_rfl) (fun _ _ h => h) (D70 hX) nL (fun n v K => by kernel_rfl)
theorem qN7 : CT X0 12 Z34.a Z34.u :=
 ct hX Tryd.f12 (by kernel_rfl) (fun _ _ h => h) (D70 hX) (oL (Z34.l2_ok hX) nL) (fun n v K => by kernel_rfl)
def D71 : CS X0 := oC (qN7 hX) (D70 hX)
abbrev Z39.a : List TS := [.c (.o (.row 94 (.int .u64) 98)), .c (.o (.int .i64))]
def Z39.u (n : Nat) (v : VA Z39.a) (K : RES -> Prop) : Prop := Z39.c n v.1 v.2.1 (fun r0 r1 => K ⟨.c (.int .i64 r0), [[.row ⟨94, .int .u64, r1, 98, none, []⟩]]⟩)
abbrev Z39.l2.s : ST := ⟨[(0, .c (.o (.own 0))), (1, .c (.o (.int .i64))), (5, .c (.o (.int .i64)))], [⟨0, 94, .int .u64, 98, .row⟩], [], [0], []⟩
def Z39.l2.u (n : Nat) (v : Z39.l2.s.V) (K : X -> St -> Prop) : Prop := Z39.l2 n v.1.2.1 v.1.2.2.1 v.2.1.1 (fun y0 y1 => K (.exit 0) ⟨[(1, .c (.int .i64 y0))], [(0, ⟨94, .int .u64, y1, 98, none, []⟩)], [], [0], []⟩)
theorem Z39.l2_ok : LT X0 39 2 Z39.l2.s Z39.l2.u :=
 lt hX Tryd.f39 (by kernel_rfl) (fun _ _ h => h) (D71 hX) nL (fun n v K => by kernel_rfl)
theorem qNZ : CT X0 39 Z39.a Z39.u :=
 ct hX Tryd.f39 (by kernel_rfl) (fun _ _ h => h) (D71 hX) (oL (Z39.l2_ok hX) nL) (fun n v K => by kernel_rfl)
def D72 : CS X0 := oC (qNZ hX) (D71 hX)
abbrev Z35.a : List TS := [.c (.o (.row 2 (.int .i64) 98)), .c (.o (.int .i64))]
def Z35.u (n : Nat) (v : VA Z35.a) (K : RES -> Prop) : Prop := Z35.c n v.1 v.2.1 (fun r0 r1 => K ⟨.c (.int .i64 r0), [[.row ⟨2, .int .i64, r1, 98, none, []⟩]]⟩)
abbrev Z35.l2.s : ST := ⟨[(0, .c (.o (.own 0))), (1, .c (.o (.int .i64))), (5, .c (.o (.int .i64)))], [⟨0, 2, .int .i64, 98, .row⟩], [], [0], []⟩
def Z35.l2.u (n : Nat) (v : Z35.l2.s.V) (K : X -> St -> Prop) : Prop := Z35.l2 n v.1.2.1 v.1.2.2.1 v.2.1.1 (fun y0 y1 => K (.exit 0) ⟨[(1, .c (.int .i64 y0))], [(0, ⟨2, .int .i64, y1, 98, none, []⟩)], [], [0], []⟩)
theorem Z35.l2_ok : LT X0 40 2 Z35.l2.s Z35.l2.u :=
 lt hX Tryd.f40 (by kernel_rfl) (fun _ _ h => h) (D72 hX) nL (fun n v K => by kernel_rfl)
theorem qN5 : CT X0 40 Z35.a Z35.u :=
 ct hX Tryd.f40 (by kernel_rfl) (fun _ _ h => h) (D72 hX) (oL (Z35.l2_ok hX) nL) (fun n v K => by kernel_rfl)
def D73 : CS X0 := oC (qN5 hX) (D72 hX)
abbrev Z36.a : List TS := [.c (.o (.row 65 Y1 99)), .c (.o (.int .i64))]
def Z36.u (n : Nat) (v : VA Z36.a) (K : RES -> Prop) : Prop := Z36.c n v.1 v.2.1 (fun r0 r1 => K ⟨.c (.int .i64 r0), [[.row ⟨65, .prod (.int .i64) Y2, r1, 99, none, []⟩]]⟩)
abbrev Z36.l2.s : ST := ⟨[(0, .c (.o (.own 0))), (1, .c (.o (.int .i64))), (5, .c (.o (.int .i64)))], [⟨0, 65, .prod (.int .i64) Y2, 99, .row⟩], [], [0], []⟩
def Z36.l2.u (n : Nat) (v : Z36.l2.s.V) (K : X -> St -> Prop) : Prop := Z36.l2 n v.1.2.1 v.1.2.2.1 v.2.1.1 (fun y0 y1 => K (.exit 0) ⟨[(1, .c (.int .i64 y0))], [(0, ⟨65, .prod (.int .i64) Y2, y1, 99, none, []⟩)], [], [0], []⟩)
theorem Z36.l2_ok : LT X0 26 2 Z36.l2.s Z36.l2.u :=
 lt hX Tryd.f26 (by kernel_rfl) (fun _ _ h => h) (D73 hX) nL (fun n v K => by kernel_rfl)
theorem qN3 : CT X0 26 Z36.a Z36.u :=
 ct hX Tryd.f26 (by kernel_rfl) (fun _ _ h => h) (D73 hX) (oL (Z36.l2_ok hX) nL) (fun n v K => by kernel_rfl)
def D74 : CS X0 := oC (qN3 hX) (D73 hX)
abbrev Z37.a : List TS := [.a [.o (.row 65 Y1 99)], .c (.o (.int .i64))]
def Z37.u (n : Nat) (v : VA Z37.a) (K : RES -> Prop) : Prop := Z37.c n v.1.1 v.2.1 (fun r0 r1 => K ⟨.c (.int .i64 r0), [[.row ⟨65, .prod (.int .i64) Y2, r1, 99, none, []⟩]]⟩)
theorem qN2 : CT X0 13 Z37.a Z37.u :=
 ct hX Tryd.f13 (by kernel_rfl) (fun _ _ h => h) (D74 hX) nL (fun n v K => by kernel_rfl)
def D75 : CS X0 := oC (qN2 hX) (D74 hX)
abbrev Z33.a : List TS := [.c (.o (.dat 94 (.int .u64))), .c (.o (.int .i64))]
def Z33.u (n : Nat) (v : VA Z33.a) (K : RES -> Prop) : Prop := Z33.c n v.1 v.2.1 (fun r0 => K ⟨.c (.int .i64 r0), []⟩)
abbrev Z33.l2.s : ST := ⟨[(0, .c (.o (.dat 94 (.int .u64)))), (1, .c (.o (.int .i64))), (5, .c (.o (.int .i64)))], [], [], [], []⟩
def Z33.l2.u (n : Nat) (v : Z33.l2.s.V) (K : X -> St -> Prop) : Prop := Z33.l2 n v.1.1 v.1.2.1 v.1.2.2.1 (fun y0 => K (.exit 0) ⟨[(1, .c (.int .i64 y0))], [], [], [], []⟩) (fun y0 => K .ret ⟨[(4, .c (.int .i64 y0))], [], [], [], []⟩)
theorem Z33.l2_ok : LT X0 41 2 Z33.l2.s Z33.l2.u :=
 lt hX Tryd.f41 (by kernel_rfl) (fun _ _ h => h) (D75 hX) nL (fun n v K => by kernel_rfl)
theorem qN9 : CT X0 41 Z33.a Z33.u :=
 ct hX Tryd.f41 (by kernel_rfl) (fun _ _ h => h) (D75 hX) (oL (Z33.l2_ok hX) nL) (fun n v K => by kernel_rfl)
def D76 : CS X0 := oC (qN9 hX) (D75 hX)
abbrev Z30.a : List TS := [.c (.o (.dat 2 (.int .i64))), .c (.o (.int .i64))]
def Z30.u (n : Nat) (v : VA Z30.a) (K : RES -> Prop) : Prop := Z30.c n v.1 v.2.1 (fun r0 => K ⟨.c (.int .i64 r0), []⟩)
abbrev Z30.l2.s : ST := ⟨[(0, .c (.o (.dat 2 (.int .i64)))), (1, .c (.o (.int .i64))), (5, .c (.o (.int .i64)))], [], [], [], []⟩
def Z30.l2.u (n : Nat) (v : Z30.l2.s.V) (K : X -> St -> Prop) : Prop := Z30.l2 n v.1.1 v.1.2.1 v.1.2.2.1 (fun y0 => K (.exit 0) ⟨[(1, .c (.int .i64 y0))], [], [], [], []⟩) (fun y0 => K .ret ⟨[(4, .c (.int .i64 y0))], [], [], [], []⟩)
theorem Z30.l2_ok : LT X0 42 2 Z30.l2.s Z30.l2.u :=
 lt hX Tryd.f42 (by kernel_rfl) (fun _ _ h => h) (D76 hX) nL (fun n v K => by kernel_rfl)
theorem qOf : CT X0 42 Z30.a Z30.u :=
 ct hX Tryd.f42 (by kernel_rfl) (fun _ _ h => h) (D76 hX) (oL (Z30.l2_ok hX) nL) (fun n v K => by kernel_rfl)
def D77 : CS X0 := oC (qOf hX) (D76 hX)
abbrev Z31.a : List TS := [.c (.o (.dat 65 Y1)), .c (.o (.int .i64))]
def Z31.u (n : Nat) (v : VA Z31.a) (K : RES -> Prop) : Prop := Z31.c n v.1 v.2.1 (fun r0 => K ⟨.c (.int .i64 r0), []⟩)
abbrev Z31.l2.s : ST := ⟨[(0, .c (.o (.dat 65 Y1))), (1, .c (.o (.int .i64))), (5, .c (.o (.int .i64)))], [], [], [], []⟩
def Z31.l2.u (n : Nat) (v : Z31.l2.s.V) (K : X -> St -> Prop) : Prop := Z31.l2 n v.1.1 v.1.2.1 v.1.2.2.1 (fun y0 => K (.exit 0) ⟨[(1, .c (.int .i64 y0))], [], [], [], []⟩) (fun y0 => K .ret ⟨[(4, .c (.int .i64 y0))], [], [], [], []⟩)
theorem Z31.l2_ok : LT X0 27 2 Z31.l2.s Z31.l2.u :=
 lt hX Tryd.f27 (by kernel_rfl) (fun _ _ h => h) (D77 hX) nL (fun n v K => by kernel_rfl)
theorem qOd : CT X0 27 Z31.a Z31.u :=
 ct hX Tryd.f27 (by kernel_rfl) (fun _ _ h => h) (D77 hX) (oL (Z31.l2_ok hX) nL) (fun n v K => by kernel_rfl)
def D78 : CS X0 := oC (qOd hX) (D77 hX)
abbrev Z32.a : List TS := [.a [.o (.dat 65 Y1)], .c (.o (.int .i64))]
def Z32.u (n : Nat) (v : VA Z32.a) (K : RES -> Prop) : Prop := Z32.c n v.1.1 v.2.1 (fun r0 => K ⟨.c (.int .i64 r0), []⟩)
theorem qOb : CT X0 14 Z32.a Z32.u :=
 ct hX Tryd.f14 (by kernel_rfl) (fun _ _ h => h) (D78 hX) nL (fun n v K => by kernel_rfl)
def D79 : CS X0 := oC (qOb hX) (D78 hX)
abbrev laws_FnExactShare.a : List TS := [.c (.o (.dat 42 Y5)), .a [.o (.dat 61 Y1)]]
def laws_FnExactShare.u (n : Nat) (v : VA laws_FnExactShare.a) (K : RES -> Prop) : Prop := laws_FnExactShare.c n v.1 v.2.1.1 (fun r0 => K ⟨.c (.bool r0), []⟩)
abbrev laws_FnExactShare.q9.s : ST := ⟨[(0, .c (.o (.dat 42 Y5))), (3, .c (.o (.pbox 3 0))), (6, .c (.o (.pbox 6 0)))], [⟨896, 65, .prod (.int .i64) Y2, 99, .row⟩], [⟨3, 25, [.o (.dat 61 Y1)], false, false⟩, ⟨6, 30, [.o (.own 896)], false, false⟩], [], []⟩
def laws_FnExactShare.q9.u (n : Nat) (v : laws_FnExactShare.q9.s.V) (K : X -> St -> Prop) : Prop := laws_FnExactShare.q9 n v.1.1 v.2.1.1 v.2.2.1.1 (fun y0 => K .ret ⟨[(4, .c (.bool y0))], [], [], [], []⟩)
theorem laws_FnExactShare.q9_ok : LT X0 3 1000009 laws_FnExactShare.q9.s laws_FnExactShare.q9.u :=
 cu hX Tryd.f3 (by kernel_rfl) (fun _ _ h => h) (D79 hX) nL (fun n v K => by kernel_rfl)
theorem laws_FnExactShare_ok : CT X0 3 laws_FnExactShare.a laws_FnExactShare.u :=
 ct hX Tryd.f3 (by kernel_rfl) (fun _ _ h => h) (D79 hX) (oL (laws_FnExactShare.q9_ok hX) nL) (fun n v K => by kernel_rfl)
def D80 : CS X0 := oC (laws_FnExactShare_ok hX) (D79 hX)
end
end Go.Vsi
end
