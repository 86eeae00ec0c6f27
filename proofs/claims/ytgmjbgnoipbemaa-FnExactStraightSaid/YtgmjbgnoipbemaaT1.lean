/- Each told function is what the machine comes to. No statement is proved here. -/
import Derived.Test.YtgmjbgnoipbemaaM3
import Derived.Test.YtgmjbgnoipbemaaA1
import Derived.Shelf.SortM.Plain
import Derived.Shelf.SortM.SortNone
import Derived.Test.YtgmjbgnoipbemaaProg
import Derived.KernelRfl

section
set_option linter.unusedVariables false
namespace Go.Vsi
abbrev Y7 : Ty := .prod .str (.int .i64)
abbrev Y6 : Ty := .prod (.int .i64) (.sl 105 (.int .u64))
abbrev Y5 : Ty := .prod (.int .i64) (.prod (.int .i64) (.prod .bool (.int .u8)))
abbrev Y4 : Ty := .prod (.int .i64) (.prod (.int .i64) (.prod (.int .i64) (.prod (.int .i64) (.prod (.sl 105 (.int .u64)) (.sl 2 (.int .i64))))))
abbrev Y3 : Ty := .prod (.int .i64) Y4
abbrev Y2 : Ty := .prod (.int .i64) (.sl 59 Y3)
abbrev Y1 : Ty := .prod (.int .i64) (.sl 84 Y3)
open Go.Proofs
def tis : List (Nat × TI) := [
(1, ⟨false, 1, 8, [.undef], none, none, []⟩),
(2, ⟨false, 1, 8, [.int .i64 0], some (.int .i64), none, []⟩),
(3, ⟨false, 1, 8, [.int .i64 0], some (.int .i64), none, []⟩),
(4, ⟨false, 1, 1, [.bool false], some (.bool), none, []⟩),
(5, ⟨false, 1, 1, [.int .u8 0], some (.int .u8), none, []⟩),
(6, ⟨false, 1, 1, [.int .u8 0], some (.int .u8), none, []⟩),
(7, ⟨true, 4, 24, [.int .i64 0, .int .i64 0, .bool false, .int .u8 0], some Y5, none, [(0, 2), (1, 3), (2, 4), (3, 6)]⟩),
(8, ⟨true, 4, 24, [.int .i64 0, .int .i64 0, .bool false, .int .u8 0], some Y5, none, [(0, 2), (1, 3), (2, 4), (3, 6)]⟩),
(9, ⟨false, 1, 16, [.str []], some (.str), none, []⟩),
(10, ⟨false, 1, 16, [.str []], some (.str), none, []⟩),
(11, ⟨false, 1, 16, [.str []], some (.str), none, []⟩),
(12, ⟨false, 1, 8, [.int .u64 0], some (.int .u64), none, []⟩),
(13, ⟨true, 2, 24, [.str [], .int .u64 0], some (.prod .str (.int .u64)), none, [(0, 9), (1, 12)]⟩),
(14, ⟨true, 2, 24, [.str [], .int .u64 0], some (.prod .str (.int .u64)), none, [(0, 9), (1, 12)]⟩),
(15, ⟨false, 1, 8, [.undef], none, none, []⟩),
(16, ⟨false, 1, 8, [.undef], none, none, []⟩),
(17, ⟨false, 1, 8, [.undef], none, none, []⟩),
(18, ⟨true, 1, 8, [.undef], none, none, [(0, 17)]⟩),
(19, ⟨true, 1, 8, [.undef], none, none, [(0, 17)]⟩),
(20, ⟨false, 1, 16, [.undef], none, none, []⟩),
(21, ⟨false, 1, 4, [.int .i32 0], some (.int .i32), none, []⟩),
(22, ⟨false, 1, 24, [.emp 52 Y7], some (.sl 52 Y7), some 52, []⟩),
(23, ⟨false, 1, 24, [.emp 84 Y3], some (.sl 84 Y3), some 84, []⟩),
(24, ⟨true, 1, 24, [.emp 84 Y3], some (.sl 84 Y3), none, [(0, 23)]⟩),
(25, ⟨true, 1, 24, [.emp 84 Y3], some (.sl 84 Y3), none, [(0, 23)]⟩),
(26, ⟨false, 1, 8, [.undef], none, none, []⟩),
(27, ⟨false, 1, 8, [.undef], none, none, []⟩),
(28, ⟨false, 1, 24, [.emp 2 (.int .i64)], some (.sl 2 (.int .i64)), some 2, []⟩),
(29, ⟨false, 1, 8, [.undef], none, none, []⟩),
(30, ⟨false, 1, 24, [.emp 60 Y7], some (.sl 60 Y7), some 60, []⟩),
(31, ⟨false, 1, 8, [.undef], none, none, []⟩),
(32, ⟨false, 1, 24, [.emp 59 Y3], some (.sl 59 Y3), some 59, []⟩),
(33, ⟨true, 1, 24, [.emp 59 Y3], some (.sl 59 Y3), none, [(0, 32)]⟩),
(34, ⟨true, 1, 24, [.emp 59 Y3], some (.sl 59 Y3), none, [(0, 32)]⟩),
(35, ⟨false, 1, 8, [.undef], none, none, []⟩),
(36, ⟨false, 1, 8, [.undef], none, none, []⟩),
(37, ⟨false, 1, 8, [.undef], none, none, []⟩),
(38, ⟨false, 1, 8, [.undef], none, none, []⟩),
(39, ⟨false, 1, 8, [.undef], none, none, []⟩),
(40, ⟨false, 1, 8, [.undef], none, none, []⟩),
(41, ⟨false, 1, 8, [.undef], none, none, []⟩),
(42, ⟨false, 1, 8, [.undef], none, none, []⟩),
(43, ⟨false, 1, 24, [.emp 70 Y1], some (.sl 70 Y1), some 70, []⟩),
(44, ⟨false, 1, 8, [.undef], none, none, []⟩),
(45, ⟨false, 1, 8, [.undef], none, none, []⟩),
(46, ⟨false, 1, 24, [.emp 72 Y2], some (.sl 72 Y2), some 72, []⟩),
(47, ⟨false, 1, 8, [.undef], none, none, []⟩),
(48, ⟨false, 1, 8, [.undef], none, none, []⟩),
(49, ⟨false, 1, 8, [.undef], none, none, []⟩),
(50, ⟨false, 1, 8, [.undef], none, none, []⟩),
(51, ⟨true, 2, 24, [.str [], .int .i64 0], some Y7, none, [(0, 9), (1, 2)]⟩),
(52, ⟨true, 2, 24, [.str [], .int .i64 0], some Y7, none, [(0, 9), (1, 2)]⟩),
(53, ⟨false, 1, 8, [.undef], none, none, []⟩),
(54, ⟨false, 1, 8, [.undef], none, none, []⟩),
(55, ⟨false, 1, 24, [.emp 105 (.int .u64)], some (.sl 105 (.int .u64)), some 105, []⟩),
(56, ⟨true, 2, 32, [.int .i64 0, .emp 105 (.int .u64)], some Y6, none, [(0, 2), (1, 55)]⟩),
(57, ⟨true, 2, 32, [.int .i64 0, .emp 105 (.int .u64)], some Y6, none, [(0, 2), (1, 55)]⟩),
(58, ⟨true, 7, 88, [.int .i64 0, .int .i64 0, .int .i64 0, .int .i64 0, .int .i64 0, .emp 105 (.int .u64), .emp 2 (.int .i64)], some Y3, none, [(0, 2), (1, 2), (2, 2), (3, 2), (4, 57), (6, 28)]⟩),
(59, ⟨true, 7, 88, [.int .i64 0, .int .i64 0, .int .i64 0, .int .i64 0, .int .i64 0, .emp 105 (.int .u64), .emp 2 (.int .i64)], some Y3, none, [(0, 2), (1, 2), (2, 2), (3, 2), (4, 57), (6, 28)]⟩),
(60, ⟨true, 2, 24, [.str [], .int .i64 0], some Y7, none, [(0, 9), (1, 2)]⟩),
(61, ⟨false, 1, 8, [.undef], none, none, []⟩),
(62, ⟨false, 1, 8, [.undef], none, none, []⟩),
(63, ⟨false, 1, 8, [.undef], none, none, []⟩),
(64, ⟨false, 1, 8, [.undef], none, none, []⟩),
(65, ⟨false, 1, 8, [.undef], none, none, []⟩),
(66, ⟨false, 1, 8, [.undef], none, none, []⟩),
(67, ⟨false, 1, 8, [.undef], none, none, []⟩),
(68, ⟨false, 1, 8, [.undef], none, none, []⟩),
(69, ⟨true, 2, 32, [.int .i64 0, .emp 84 Y3], some Y1, none, [(0, 2), (1, 25)]⟩),
(70, ⟨true, 2, 32, [.int .i64 0, .emp 84 Y3], some Y1, none, [(0, 2), (1, 25)]⟩),
(71, ⟨true, 2, 32, [.int .i64 0, .emp 59 Y3], some Y2, none, [(0, 2), (1, 34)]⟩),
(72, ⟨true, 2, 32, [.int .i64 0, .emp 59 Y3], some Y2, none, [(0, 2), (1, 34)]⟩),
(73, ⟨false, 1, 8, [.undef], none, none, []⟩),
(74, ⟨false, 1, 8, [.undef], none, none, []⟩),
(75, ⟨false, 1, 8, [.undef], none, none, []⟩),
(76, ⟨false, 1, 8, [.undef], none, none, []⟩),
(77, ⟨false, 1, 24, [.emp 4 .bool], some (.sl 4 .bool), some 4, []⟩),
(78, ⟨false, 1, 8, [.undef], none, none, []⟩),
(79, ⟨false, 1, 8, [.undef], none, none, []⟩),
(80, ⟨false, 1, 8, [.undef], none, none, []⟩),
(81, ⟨false, 1, 8, [.undef], none, none, []⟩),
(82, ⟨true, 2, 32, [.int .i64 0, .emp 105 (.int .u64)], some Y6, none, [(0, 2), (1, 55)]⟩),
(83, ⟨true, 7, 88, [.int .i64 0, .int .i64 0, .int .i64 0, .int .i64 0, .int .i64 0, .emp 105 (.int .u64), .emp 2 (.int .i64)], some Y3, none, [(0, 2), (1, 2), (2, 2), (3, 2), (4, 82), (6, 28)]⟩),
(84, ⟨true, 7, 88, [.int .i64 0, .int .i64 0, .int .i64 0, .int .i64 0, .int .i64 0, .emp 105 (.int .u64), .emp 2 (.int .i64)], some Y3, none, [(0, 2), (1, 2), (2, 2), (3, 2), (4, 82), (6, 28)]⟩),
(85, ⟨false, 1, 8, [.undef], none, none, []⟩),
(86, ⟨false, 1, 8, [.undef], none, none, []⟩),
(87, ⟨false, 1, 8, [.undef], none, none, []⟩),
(88, ⟨false, 1, 8, [.undef], none, none, []⟩),
(89, ⟨false, 1, 24, [.emp 5 (.int .u8)], some (.sl 5 (.int .u8)), some 5, []⟩),
(90, ⟨false, 1, 8, [.undef], none, none, []⟩),
(91, ⟨false, 1, 8, [.undef], none, none, []⟩),
(92, ⟨false, 1, 8, [.undef], none, none, []⟩),
(93, ⟨false, 1, 8, [.undef], none, none, []⟩),
(94, ⟨false, 1, 8, [.undef], none, none, []⟩),
(95, ⟨false, 1, 8, [.undef], none, none, []⟩),
(96, ⟨false, 1, 8, [.undef], none, none, []⟩),
(97, ⟨false, 1, 8, [.undef], none, none, []⟩),
(98, ⟨false, 1, 8, [.undef], none, none, []⟩),
(100, ⟨false, 1, 8, [.undef], none, none, []⟩),
(101, ⟨false, 1, 8, [.undef], none, none, []⟩),
(102, ⟨false, 1, 8, [.undef], none, none, []⟩),
(103, ⟨false, 1, 8, [.int .u64 0], some (.int .u64), none, []⟩),
(104, ⟨false, 1, 8, [.undef], none, none, []⟩),
(105, ⟨false, 1, 8, [.int .u64 0], some (.int .u64), none, []⟩),
(106, ⟨false, 1, 8, [.undef], none, none, []⟩),
(107, ⟨false, 1, 8, [.undef], none, none, []⟩),
(108, ⟨false, 1, 8, [.undef], none, none, []⟩),
(109, ⟨false, 1, 8, [.undef], none, none, []⟩),
(110, ⟨false, 1, 8, [.undef], none, none, []⟩),
(111, ⟨false, 1, 8, [.undef], none, none, []⟩),
(112, ⟨false, 1, 8, [.undef], none, none, []⟩),
(113, ⟨false, 1, 8, [.undef], none, none, []⟩),
(114, ⟨false, 1, 8, [.undef], none, none, []⟩),
(115, ⟨false, 1, 8, [.undef], none, none, []⟩),
(116, ⟨false, 1, 8, [.int .i64 0], some (.int .i64), none, []⟩),
(118, ⟨false, 1, 8, [.undef], none, none, []⟩),
(119, ⟨false, 1, 8, [.undef], none, none, []⟩),
(120, ⟨false, 1, 8, [.undef], none, none, []⟩),
(121, ⟨false, 1, 8, [.undef], none, none, []⟩),
(123, ⟨false, 1, 8, [.undef], none, none, []⟩),
(124, ⟨false, 1, 8, [.undef], none, none, []⟩),
(125, ⟨false, 1, 4, [.int .u32 0], some (.int .u32), none, []⟩),
(126, ⟨false, 1, 8, [.undef], none, none, []⟩),
(127, ⟨false, 1, 8, [.undef], none, none, []⟩),
(128, ⟨false, 1, 8, [.undef], none, none, []⟩),
(129, ⟨false, 1, 8, [.undef], none, none, []⟩),
(130, ⟨false, 1, 8, [.int .u64 0], some (.int .u64), none, []⟩),
(131, ⟨false, 1, 8, [.undef], none, none, []⟩),
(132, ⟨false, 1, 8, [.undef], none, none, []⟩),
(133, ⟨false, 1, 8, [.undef], none, none, []⟩),
(134, ⟨false, 1, 8, [.undef], none, none, []⟩),
(135, ⟨false, 1, 8, [.undef], none, none, []⟩),
(136, ⟨false, 1, 8, [.undef], none, none, []⟩),
(137, ⟨false, 1, 8, [.undef], none, none, []⟩),
(139, ⟨false, 1, 8, [.undef], none, none, []⟩),
(140, ⟨false, 1, 8, [.undef], none, none, []⟩),
(141, ⟨true, 4, 40, [.undef, .undef, .undef, .undef], none, none, [(0, 17), (1, 17), (2, 17), (3, 9)]⟩),
(142, ⟨true, 4, 40, [.undef, .undef, .undef, .undef], none, none, [(0, 17), (1, 17), (2, 17), (3, 9)]⟩),
(143, ⟨true, 0, 0, [], none, none, []⟩),
(144, ⟨true, 0, 0, [], none, none, [(0, 143)]⟩),
(145, ⟨true, 0, 0, [], none, none, [(0, 143)]⟩),
(146, ⟨false, 1, 8, [.undef], none, none, []⟩),
(147, ⟨false, 1, 1, [.int .u8 0], some (.int .u8), none, []⟩),
(148, ⟨false, 1, 1, [.int .u8 0], some (.int .u8), none, []⟩),
(149, ⟨false, 1, 8, [.undef], none, none, []⟩),
(150, ⟨false, 1, 8, [.undef], none, none, []⟩),
(151, ⟨false, 1, 4, [.int .i32 0], some (.int .i32), none, []⟩),
(152, ⟨false, 1, 4, [.int .i32 0], some (.int .i32), none, []⟩),
(153, ⟨true, 11, 48, [.undef, .undef, .undef, .undef, .undef, .undef, .undef, .undef, .undef, .undef, .undef], none, none, [(0, 12), (1, 12), (2, 125), (3, 147), (4, 5), (5, 5), (6, 148), (7, 149), (8, 150), (9, 151), (10, 152)]⟩),
(154, ⟨true, 11, 48, [.undef, .undef, .undef, .undef, .undef, .undef, .undef, .undef, .undef, .undef, .undef], none, none, [(0, 12), (1, 12), (2, 125), (3, 147), (4, 5), (5, 5), (6, 148), (7, 149), (8, 150), (9, 151), (10, 152)]⟩),
(155, ⟨false, 1, 8, [.undef], none, none, []⟩),
(156, ⟨false, 1, 8, [.undef], none, none, []⟩)]
noncomputable def fns : List (Nat × Func) := [(4, Try.f4), (5, Try.f5), (6, Try.f6), (7, Try.f7), (8, Try.f8), (9, Try.f9), (11, Try.f11), (12, Try.f12), (13, Try.f13), (18, Try.f18), (19, Try.f19), (20, Try.f20), (21, Try.f21), (22, Try.f22), (23, Try.f23), (24, Try.f24), (25, Try.f25), (26, Try.f26), (27, Try.f27), (29, Try.f29), (30, Try.f30), (31, Try.f31), (34, Try.f34), (35, Try.f35), (36, Try.f36), (37, Try.f37), (38, Try.f38), (39, Try.f39), (40, Try.f40), (41, Try.f41), (42, Try.f42), (43, Try.f43), (44, Try.f44), (45, Try.f45), (46, Try.f46), (47, Try.f47), (49, Try.f49), (50, Try.f50), (52, Try.f52), (53, Try.f53), (54, Try.f54), (55, Try.f55), (56, Try.f56), (57, Try.f57), (58, Try.f58), (59, Try.f59), (60, Try.f60), (61, Try.f61), (62, Try.f62), (63, Try.f63), (64, Try.f64), (67, Try.f67), (68, Try.f68), (69, Try.f69), (70, Try.f70), (71, Try.f71), (72, Try.f72), (73, Try.f73), (74, Try.f74), (75, Try.f75), (76, Try.f76), (77, Try.f77), (78, Try.f78), (90, Try.f90), (91, Try.f91), (92, Try.f92), (93, Try.f93), (100, Try.f100)]
def fis : List (Nat × Fi) := [
(4, ⟨[], [], []⟩),
(5, ⟨[], [], [(5, ⟨⟨[0, 1, 5], []⟩, [(0, ⟨[1], []⟩)], ⟨[4], []⟩⟩)]⟩),
(6, ⟨[], [], []⟩),
(7, ⟨[], [], [(5, ⟨⟨[0, 3, 5, 6], [(5, 0, .own 99)]⟩, [(0, ⟨[5], []⟩)], ⟨[4], []⟩⟩), (8, ⟨⟨[0, 3, 5, 6, 7], []⟩, [(2, ⟨[0, 3, 5, 6], [(5, 0, .own 99)]⟩)], ⟨[4], []⟩⟩)]⟩),
(8, ⟨[], [], [(3, ⟨⟨[0, 3, 4], []⟩, [(0, ⟨[3], []⟩)], ⟨[2], []⟩⟩)]⟩),
(9, ⟨[], [], []⟩),
(11, ⟨[], [], [(4, ⟨⟨[0, 1, 5], []⟩, [(0, ⟨[], []⟩)], ⟨[4], []⟩⟩)]⟩),
(12, ⟨[], [], [(4, ⟨⟨[0, 1, 5], []⟩, [(0, ⟨[], []⟩)], ⟨[4], []⟩⟩)]⟩),
(13, ⟨[], [], []⟩),
(18, ⟨[], [], [(5, ⟨⟨[0, 1, 5], []⟩, [(0, ⟨[1], []⟩)], ⟨[4], []⟩⟩)]⟩),
(19, ⟨[], [], [(3, ⟨⟨[0, 1, 5, 6], [(5, 0, .own 99)]⟩, [(0, ⟨[0], []⟩)], ⟨[4], []⟩⟩), (11, ⟨⟨[0, 1, 5, 6, 8, 9], []⟩, [(2, ⟨[0, 1, 5, 6], []⟩)], ⟨[4], []⟩⟩)]⟩),
(20, ⟨[], [], [(3, ⟨⟨[0, 3, 4], []⟩, [(0, ⟨[3], []⟩)], ⟨[2], []⟩⟩)]⟩),
(21, ⟨[], [], [(5, ⟨⟨[0, 5, 21, 22, 23], []⟩, [(0, ⟨[], []⟩)], ⟨[4], []⟩⟩)]⟩),
(22, ⟨[], [], [(4, ⟨⟨[0, 1, 5], []⟩, [(0, ⟨[], []⟩)], ⟨[4], []⟩⟩)]⟩),
(23, ⟨[], [], []⟩),
(24, ⟨[], [], [(5, ⟨⟨[0, 1, 5], []⟩, [(0, ⟨[1], []⟩)], ⟨[4], []⟩⟩)]⟩),
(25, ⟨[], [], []⟩),
(26, ⟨[], [], []⟩),
(27, ⟨[], [], [(3, ⟨⟨[0, 3, 4], []⟩, [(0, ⟨[3], []⟩)], ⟨[2], []⟩⟩)]⟩),
(29, ⟨[], [], [(3, ⟨⟨[3, 8, 9, 10], [(3, 0, .own 99)]⟩, [(0, ⟨[3], []⟩)], ⟨[2], []⟩⟩)]⟩),
(30, ⟨[], [], []⟩),
(31, ⟨[], [], [(4, ⟨⟨[0, 1, 5], []⟩, [(0, ⟨[], []⟩)], ⟨[4], []⟩⟩)]⟩),
(34, ⟨[], [], []⟩),
(35, ⟨[], [], []⟩),
(36, ⟨[], [], [(2, ⟨⟨[0, 1, 5], []⟩, [(0, ⟨[], []⟩)], ⟨[4], []⟩⟩)]⟩),
(37, ⟨[], [], [(5, ⟨⟨[0, 3, 4], []⟩, [(0, ⟨[3], []⟩)], ⟨[2], []⟩⟩), (10, ⟨⟨[0, 3, 4, 5], []⟩, [(2, ⟨[0, 3, 4], []⟩)], ⟨[2], []⟩⟩)]⟩),
(38, ⟨[], [], []⟩),
(39, ⟨[], [], [(5, ⟨⟨[0, 3, 9, 10, 11], []⟩, [(0, ⟨[3], []⟩)], ⟨[2], []⟩⟩)]⟩),
(40, ⟨[], [], []⟩),
(41, ⟨[], [], []⟩),
(42, ⟨[], [], []⟩),
(43, ⟨[], [], []⟩),
(44, ⟨[], [], []⟩),
(45, ⟨[], [], [(7, ⟨⟨[0, 3, 5, 6, 7, 8], [(6, 0, .own 99)]⟩, [(0, ⟨[5, 6, 7], []⟩)], ⟨[4], []⟩⟩), (16, ⟨⟨[0, 3, 5, 6, 7, 8, 10], []⟩, [(2, ⟨[0, 3, 5, 6, 7, 8], []⟩)], ⟨[4], []⟩⟩), (20, ⟨⟨[5, 6, 7, 11], []⟩, [(4, ⟨[6], []⟩)], ⟨[4], []⟩⟩)]⟩),
(46, ⟨[], [], []⟩),
(47, ⟨[], [], []⟩),
(48, ⟨[1], [], []⟩),
(49, ⟨[2], [], [(4, ⟨⟨[0, 3], []⟩, [(0, ⟨[0], []⟩)], ⟨[2], []⟩⟩), (9, ⟨⟨[0, 3, 4, 5], []⟩, [(2, ⟨[0, 3], []⟩)], ⟨[2], []⟩⟩)]⟩),
(50, ⟨[], [], []⟩),
(52, ⟨[], [], []⟩),
(53, ⟨[], [], [(4, ⟨⟨[0, 3], []⟩, [(0, ⟨[], []⟩)], ⟨[2], []⟩⟩)]⟩),
(54, ⟨[], [], [(4, ⟨⟨[0, 3], []⟩, [(0, ⟨[], []⟩)], ⟨[2], []⟩⟩)]⟩),
(55, ⟨[], [], []⟩),
(56, ⟨[], [], []⟩),
(57, ⟨[], [], [(2, ⟨⟨[0, 1, 7, 8], []⟩, [(0, ⟨[], []⟩)], ⟨[4], []⟩⟩)]⟩),
(58, ⟨[], [], []⟩),
(59, ⟨[], [], []⟩),
(60, ⟨[], [], [(2, ⟨⟨[0, 2, 4, 7], []⟩, [(0, ⟨[0, 4], []⟩)], ⟨[6], []⟩⟩), (1000007, ⟨⟨[0, 4, 63], []⟩, [(1000000, ⟨[0, 4], []⟩)], ⟨[6], []⟩⟩), (1000008, ⟨⟨[0, 4], []⟩, [(1000000, ⟨[6], []⟩)], ⟨[6], []⟩⟩)]⟩),
(61, ⟨[], [], [(3, ⟨⟨[0, 2, 4, 7, 8], []⟩, [(0, ⟨[0, 4, 7], []⟩)], ⟨[6], []⟩⟩)]⟩),
(62, ⟨[], [], []⟩),
(63, ⟨[], [], [(3, ⟨⟨[0, 3, 4], []⟩, [(0, ⟨[3], []⟩)], ⟨[2], []⟩⟩)]⟩),
(64, ⟨[], [], [(6, ⟨⟨[0, 3, 6, 7, 8, 29, 30], []⟩, [(0, ⟨[6, 7, 8], []⟩)], ⟨[4, 5], []⟩⟩), (13, ⟨⟨[0, 3, 6, 7, 8, 9, 10, 11, 29, 30, 52, 53, 54], []⟩, [(2, ⟨[0, 3, 6, 7, 8, 9, 10, 11, 29, 30], []⟩)], ⟨[4, 5], []⟩⟩)]⟩),
(67, ⟨[], [], []⟩),
(68, ⟨[], [], []⟩),
(69, ⟨[], [], [(2, ⟨⟨[0, 1, 7, 8], []⟩, [(0, ⟨[], []⟩)], ⟨[4], []⟩⟩)]⟩),
(70, ⟨[], [], []⟩),
(71, ⟨[], [], []⟩),
(72, ⟨[], [], []⟩),
(73, ⟨[], [], []⟩),
(74, ⟨[], [], [(4, ⟨⟨[1, 3], []⟩, [(0, ⟨[], []⟩)], ⟨[2], []⟩⟩)]⟩),
(75, ⟨[], [], [(3, ⟨⟨[0, 3, 4], []⟩, [(0, ⟨[3], []⟩)], ⟨[2], []⟩⟩)]⟩),
(76, ⟨[], [], [(11, ⟨⟨[8, 80, 81, 82], []⟩, [(1, ⟨[8], []⟩)], ⟨[6], []⟩⟩), (1000005, ⟨⟨[0, 1, 2, 7, 17], []⟩, [(1000000, ⟨[], []⟩)], ⟨[6], []⟩⟩), (1000009, ⟨⟨[0, 2, 7, 69], []⟩, [(1000000, ⟨[], []⟩)], ⟨[6], []⟩⟩), (1000021, ⟨⟨[0, 7, 137], []⟩, [(1000000, ⟨[], []⟩)], ⟨[6], []⟩⟩)]⟩),
(77, ⟨[], [], [(1000002, ⟨⟨[0, 3], []⟩, [(1000000, ⟨[2], []⟩)], ⟨[2], []⟩⟩), (1000003, ⟨⟨[0, 52], []⟩, [(1000000, ⟨[0], []⟩)], ⟨[2], []⟩⟩)]⟩),
(78, ⟨[], [], []⟩),
(90, ⟨[], [], [(4, ⟨⟨[0, 1, 5], []⟩, [(0, ⟨[], []⟩)], ⟨[4], []⟩⟩)]⟩),
(91, ⟨[], [], []⟩),
(92, ⟨[], [], []⟩),
(93, ⟨[], [], [(2, ⟨⟨[0, 1, 7, 8], []⟩, [(0, ⟨[], []⟩)], ⟨[4], []⟩⟩)]⟩),
(100, ⟨[], [], []⟩)]
def fiF (f : Nat) : Fi := (look f fis).getD ⟨[], [], []⟩
noncomputable def C : Ctx := { ti := fun t => look t tis, fs := fun f => look f fns, fi := fiF }
def bodyOf (f : Func) : Code := f.body.getD .skip
def loopOf (f : Func) (k : Nat) : Code := (findLoop k (bodyOf f)).getD .skip
def cutOf (f : Func) (k : Nat) : Code := (findCut k (bodyOf f)).getD .skip
def liOf (l : List (Nat × Li)) (k : Nat) : Li := (look k l).getD ⟨⟨[], []⟩, [], ⟨[], []⟩⟩
theorem tis_ok : (tis.all fun x => tiB Try.prog x.1 x.2) = true := by kernel_rfl
theorem fns_all : (fns.all fun x => fnB (fiF x.1) x.2) = true := by kernel_rfl
theorem fnp (f : Nat) (x : Func) (r : List (Nat × Func)) (h : Try.prog.funcs[f]? = some x) (hr : ∀ y ∈ r, Try.prog.funcs[y.1]? = some y.2) : ∀ y ∈ (f, x) :: r, Try.prog.funcs[y.1]? = some y.2 := List.forall_mem_cons.2 ⟨h, hr⟩
set_option maxRecDepth 100000 in
theorem fns_prog : ∀ x ∈ fns, Try.prog.funcs[x.1]? = some x.2 := (fnp _ _ _ Try.func4
(fnp _ _ _ Try.func5
(fnp _ _ _ Try.func6
(fnp _ _ _ Try.func7
(fnp _ _ _ Try.func8
(fnp _ _ _ Try.func9
(fnp _ _ _ Try.func11
(fnp _ _ _ Try.func12
(fnp _ _ _ Try.func13
(fnp _ _ _ Try.func18
(fnp _ _ _ Try.func19
(fnp _ _ _ Try.func20
(fnp _ _ _ Try.func21
(fnp _ _ _ Try.func22
(fnp _ _ _ Try.func23
(fnp _ _ _ Try.func24
(fnp _ _ _ Try.func25
(fnp _ _ _ Try.func26
(fnp _ _ _ Try.func27
(fnp _ _ _ Try.func29
(fnp _ _ _ Try.func30
(fnp _ _ _ Try.func31
(fnp _ _ _ Try.func34
(fnp _ _ _ Try.func35
(fnp _ _ _ Try.func36
(fnp _ _ _ Try.func37
(fnp _ _ _ Try.func38
(fnp _ _ _ Try.func39
(fnp _ _ _ Try.func40
(fnp _ _ _ Try.func41
(fnp _ _ _ Try.func42
(fnp _ _ _ Try.func43
(fnp _ _ _ Try.func44
(fnp _ _ _ Try.func45
(fnp _ _ _ Try.func46
(fnp _ _ _ Try.func47
(fnp _ _ _ Try.func49
(fnp _ _ _ Try.func50
(fnp _ _ _ Try.func52
(fnp _ _ _ Try.func53
(fnp _ _ _ Try.func54
(fnp _ _ _ Try.func55
(fnp _ _ _ Try.func56
(fnp _ _ _ Try.func57
(fnp _ _ _ Try.func58
(fnp _ _ _ Try.func59
(fnp _ _ _ Try.func60
(fnp _ _ _ Try.func61
(fnp _ _ _ Try.func62
(fnp _ _ _ Try.func63
(fnp _ _ _ Try.func64
(fnp _ _ _ Try.func67
(fnp _ _ _ Try.func68
(fnp _ _ _ Try.func69
(fnp _ _ _ Try.func70
(fnp _ _ _ Try.func71
(fnp _ _ _ Try.func72
(fnp _ _ _ Try.func73
(fnp _ _ _ Try.func74
(fnp _ _ _ Try.func75
(fnp _ _ _ Try.func76
(fnp _ _ _ Try.func77
(fnp _ _ _ Try.func78
(fnp _ _ _ Try.func90
(fnp _ _ _ Try.func91
(fnp _ _ _ Try.func92
(fnp _ _ _ Try.func93
(fnp _ _ _ Try.func100
(fun _ h => by cases h)))))))))))))))))))))))))))))))))))))))))))))))))))))))))))))))))))))
theorem C_ok : CtxOK Try.prog C := ctx_ok tis_ok fns_prog
theorem C_fns : FnsOK Try.prog C := Go.Vsi.fns_ok fns_all
theorem C_follows : Try.prog.follows .mixedOrders = true := by kernel_rfl
def D0 (n : Nat) : CallF := noC
theorem D0_ok {X0 : CallF} (hX : CallF.Mono X0) : ∀ n g a K, D0 n g a K -> callM C X0 n g a K := fun n => noC_ok
end Go.Vsi
namespace Go.Proofs
open Go.Shelf
def Try.srtL_ren : Go.Shelf.Ren := ⟨fun | 5 => 48 | 8 => 66 | 7 => 65 | 19 => 88 | 20 => 89 | 10 => 79 | 11 => 80 | 12 => 81 | 13 => 82 | 14 => 83 | 15 => 84 | 16 => 85 | 17 => 86 | 18 => 87 | 30 => 94 | 31 => 95 | 32 => 96 | 33 => 97 | 34 => 98 | 35 => 99 | 40 => 101 | n => n, fun | 23 => 28 | 25 => 2 | 3 => 3 | 32 => 103 | 22 => 28 | 0 => 0 | 44 => 125 | 46 => 105 | 4 => 4 | 36 => 117 | 35 => 116 | 41 => 122 | 5 => 5 | 9 => 9 | 53 => 130 | 57 => 134 | 63 => 137 | 64 => 138 | n => n, fun | n => n⟩
theorem Try.srtL : Go.Proofs.SlLaysM.n5 Try.prog Try.srtL_ren := {
 mixed := by kernel_rfl,
 f5 := ⟨Try.f48.name, by decide, Try.func48.trans (congrArg some (by kernel_rfl))⟩,
 f7 := ⟨Try.f65.name, by decide, Try.func65.trans (congrArg some (by kernel_rfl))⟩,
 f8 := Try.func66.trans (congrArg some (by kernel_rfl)),
 f10 := ⟨Try.f79.name, by decide, Try.func79.trans (congrArg some (by kernel_rfl))⟩,
 f11 := ⟨Try.f80.name, by decide, Try.func80.trans (congrArg some (by kernel_rfl))⟩,
 f12 := ⟨Try.f81.name, by decide, Try.func81.trans (congrArg some (by kernel_rfl))⟩,
 f13 := ⟨Try.f82.name, by decide, Try.func82.trans (congrArg some (by kernel_rfl))⟩,
 f14 := ⟨Try.f83.name, by decide, Try.func83.trans (congrArg some (by kernel_rfl))⟩,
 f15 := ⟨Try.f84.name, by decide, Try.func84.trans (congrArg some (by kernel_rfl))⟩,
 f16 := ⟨Try.f85.name, by decide, Try.func85.trans (congrArg some (by kernel_rfl))⟩,
 f17 := ⟨Try.f86.name, by decide, Try.func86.trans (congrArg some (by kernel_rfl))⟩,
 f18 := ⟨Try.f87.name, by decide, Try.func87.trans (congrArg some (by kernel_rfl))⟩,
 f19 := Try.func88.trans (congrArg some (by kernel_rfl)),
 f20 := Try.func89.trans (congrArg some (by kernel_rfl)),
 f30 := ⟨Try.f94.name, by decide, Try.func94.trans (congrArg some (by kernel_rfl))⟩,
 f31 := Try.func95.trans (congrArg some (by kernel_rfl)),
 f32 := Try.func96.trans (congrArg some (by kernel_rfl)),
 f33 := ⟨Try.f97.name, by decide, Try.func97.trans (congrArg some (by kernel_rfl))⟩,
 f34 := ⟨Try.f98.name, by decide, Try.func98.trans (congrArg some (by kernel_rfl))⟩,
 f35 := ⟨Try.f99.name, by decide, Try.func99.trans (congrArg some (by kernel_rfl))⟩,
 f40 := ⟨Try.f101.name, by decide, Try.func101.trans (congrArg some (by kernel_rfl))⟩,
 t0 := Try.underlying0,
 a0 := Try.isAgg0,
 z0 := Try.sizeOf0,
 v0 := Try.zeroValue0,
 t3 := Try.underlying3,
 a3 := Try.isAgg3,
 z3 := Try.sizeOf3,
 v3 := Try.zeroValue3,
 t4 := Try.underlying4,
 a4 := Try.isAgg4,
 z4 := Try.sizeOf4,
 v4 := Try.zeroValue4,
 t5 := Try.underlying5,
 a5 := Try.isAgg5,
 z5 := Try.sizeOf5,
 v5 := Try.zeroValue5,
 t9 := Try.underlying9,
 a9 := Try.isAgg9,
 z9 := Try.sizeOf9,
 v9 := Try.zeroValue9,
 t22 := Try.underlying28,
 a22 := Try.isAgg28,
 z22 := Try.sizeOf28,
 v22 := Try.zeroValue28,
 t23 := Try.underlying28,
 a23 := Try.isAgg28,
 z23 := Try.sizeOf28,
 v23 := Try.zeroValue28,
 t25 := Try.underlying2,
 a25 := Try.isAgg2,
 z25 := Try.sizeOf2,
 v25 := Try.zeroValue2,
 t32 := Try.underlying103,
 a32 := Try.isAgg103,
 z32 := Try.sizeOf103,
 v32 := Try.zeroValue103,
 t35 := Try.underlying116,
 a35 := Try.isAgg116,
 z35 := Try.sizeOf116,
 v35 := Try.zeroValue116,
 t36 := Try.underlying117,
 a36 := Try.isAgg117,
 z36 := Try.sizeOf117,
 v36 := Try.zeroValue117,
 t41 := Try.underlying122,
 a41 := Try.isAgg122,
 z41 := Try.sizeOf122,
 v41 := Try.zeroValue122,
 t44 := Try.underlying125,
 a44 := Try.isAgg125,
 z44 := Try.sizeOf125,
 v44 := Try.zeroValue125,
 t46 := Try.underlying105,
 a46 := Try.isAgg105,
 z46 := Try.sizeOf105,
 v46 := Try.zeroValue105,
 t53 := Try.underlying130,
 a53 := Try.isAgg130,
 z53 := Try.sizeOf130,
 v53 := Try.zeroValue130,
 t57 := Try.underlying134,
 a57 := Try.isAgg134,
 z57 := Try.sizeOf134,
 v57 := Try.zeroValue134,
 t63 := Try.underlying137,
 a63 := Try.isAgg137,
 z63 := Try.sizeOf137,
 v63 := Try.zeroValue137,
 t64 := Try.underlying138,
 a64 := Try.isAgg138,
 z64 := Try.sizeOf138,
 v64 := Try.zeroValue138 }
end Go.Proofs
namespace Go.Vsi
open Go.Proofs
theorem sort_ok : SortOK Try.prog 48 := ⟨fun blk off cap zs w hH hb hs => AnyM.slices_Sort_int Try.srtL blk off cap zs w hH hb hs, fun p cap w => AnyM.slices_Sort_int_none Try.srtL p cap w⟩
def X0 : CallF := sortX 48
theorem X0_mono : CallF.Mono X0 := sortX_mono _
theorem X0_ok : CallOK Try.prog C X0 := sortX_ok sort_ok (by kernel_rfl) Try.func48 (by kernel_rfl) (by kernel_rfl)
end Go.Vsi
end

section
set_option linter.unusedVariables false
namespace Go.Vsi
open Go.Proofs
section
variable (hX : CallF.Mono X0)
include hX
abbrev Z28.a : List TS := [.a [.o .str, .o (.int .i64)], .c (.o (.int .i64))]
def Z28.u (n : Nat) (v : VA Z28.a) (K : RES -> Prop) : Prop := Z28.c n v.1.1 v.1.2.1 v.2.1 (fun r0 => K ⟨.c (.int .i64 r0), []⟩)
theorem Z28_ok : ∀ n v K, Z28.u n v K -> callM C X0 n 23 (fillA Z28.a v) K :=
 call_tell hX (fn := Try.f23) (c := bodyOf Try.f23) (by kernel_rfl) (by kernel_rfl) (A := Z28.a) (u := Z28.u) (fun _ _ h => h) (call := D0) (lp := fun n => noL) (D0_ok hX) (fun n => noL_ok) (fun n v K => by kernel_rfl)
def D1 (n : Nat) : CallF := orC 23 Z28.a (Z28.u n) (D0 n)
theorem D1_ok : ∀ n g a K, D1 n g a K -> callM C X0 n g a K := fun n => orC_ok (Z28_ok hX n) (D0_ok hX n)
abbrev Z29.a : List TS := [.c (.o (.dat 52 Y7)), .c (.o (.int .i64))]
def Z29.u (n : Nat) (v : VA Z29.a) (K : RES -> Prop) : Prop := Z29.c n v.1 v.2.1 (fun r0 => K ⟨.c (.int .i64 r0), []⟩)
abbrev Z29.l5.s : ST := ⟨[(0, .c (.o (.dat 52 Y7))), (1, .c (.o (.int .i64))), (5, .c (.o (.int .i64)))], [], [], [], []⟩
def Z29.l5.u (n : Nat) (v : Z29.l5.s.V) (K : X -> St -> Prop) : Prop := Z29.l5 n v.1.1 v.1.2.1 v.1.2.2.1 (fun y0 => K (.exit 0) ⟨[(1, .c (.int .i64 y0))], [], [], [], []⟩) (fun y0 => K .ret ⟨[(4, .c (.int .i64 y0))], [], [], [], []⟩)
theorem Z29.l5_ok : ∀ n v K, Z29.l5.u n v K -> loopM C X0 n 5 5 (Z29.l5.s.fill v) K :=
 loop_tell hX (fn := Try.f5) (c := bodyOf Try.f5) (a := loopOf Try.f5 5) (li := liOf (C.fi 5).loops 5) (by kernel_rfl) (by kernel_rfl) (of_decide_eq_true rfl) (by kernel_rfl) (by kernel_rfl) (T := Z29.l5.s) (u := Z29.l5.u) (fun _ _ h => h) (call := D1) (lp := fun n => noL) (D1_ok hX) (fun n => noL_ok) (fun n v K => by kernel_rfl)
theorem Z29_ok : ∀ n v K, Z29.u n v K -> callM C X0 n 5 (fillA Z29.a v) K :=
 call_tell hX (fn := Try.f5) (c := bodyOf Try.f5) (by kernel_rfl) (by kernel_rfl) (A := Z29.a) (u := Z29.u) (fun _ _ h => h) (call := D1) (lp := fun n => orL 5 Z29.l5.s (Z29.l5.u n) noL) (D1_ok hX) (fun n => (orL_ok (Z29.l5_ok hX n) noL_ok)) (fun n v K => by kernel_rfl)
def D2 (n : Nat) : CallF := orC 5 Z29.a (Z29.u n) (D1 n)
theorem D2_ok : ∀ n g a K, D2 n g a K -> callM C X0 n g a K := fun n => orC_ok (Z29_ok hX n) (D1_ok hX n)
abbrev Z34.a : List TS := [.c (.o (.dat 105 (.int .u64))), .c (.o (.int .i64))]
def Z34.u (n : Nat) (v : VA Z34.a) (K : RES -> Prop) : Prop := Z34.c n v.1 v.2.1 (fun r0 => K ⟨.c (.int .i64 r0), []⟩)
theorem Z34_ok : ∀ n v K, Z34.u n v K -> callM C X0 n 71 (fillA Z34.a v) K :=
 call_tell hX (fn := Try.f71) (c := bodyOf Try.f71) (by kernel_rfl) (by kernel_rfl) (A := Z34.a) (u := Z34.u) (fun _ _ h => h) (call := D2) (lp := fun n => noL) (D2_ok hX) (fun n => noL_ok) (fun n v K => by kernel_rfl)
def D3 (n : Nat) : CallF := orC 71 Z34.a (Z34.u n) (D2 n)
theorem D3_ok : ∀ n g a K, D3 n g a K -> callM C X0 n g a K := fun n => orC_ok (Z34_ok hX n) (D2_ok hX n)
abbrev Z27.a : List TS := [.a [.o (.int .i64), .o (.dat 105 (.int .u64))], .c (.o (.int .i64))]
def Z27.u (n : Nat) (v : VA Z27.a) (K : RES -> Prop) : Prop := Z27.c n v.1.1 v.1.2.1 v.2.1 (fun r0 => K ⟨.c (.int .i64 r0), []⟩)
theorem Z27_ok : ∀ n v K, Z27.u n v K -> callM C X0 n 58 (fillA Z27.a v) K :=
 call_tell hX (fn := Try.f58) (c := bodyOf Try.f58) (by kernel_rfl) (by kernel_rfl) (A := Z27.a) (u := Z27.u) (fun _ _ h => h) (call := D3) (lp := fun n => noL) (D3_ok hX) (fun n => noL_ok) (fun n v K => by kernel_rfl)
def D4 (n : Nat) : CallF := orC 58 Z27.a (Z27.u n) (D3 n)
theorem D4_ok : ∀ n g a K, D4 n g a K -> callM C X0 n g a K := fun n => orC_ok (Z27_ok hX n) (D3_ok hX n)
abbrev Z30.a : List TS := [.c (.o (.dat 2 (.int .i64))), .c (.o (.int .i64))]
def Z30.u (n : Nat) (v : VA Z30.a) (K : RES -> Prop) : Prop := Z30.c n v.1 v.2.1 (fun r0 => K ⟨.c (.int .i64 r0), []⟩)
theorem Z30_ok : ∀ n v K, Z30.u n v K -> callM C X0 n 59 (fillA Z30.a v) K :=
 call_tell hX (fn := Try.f59) (c := bodyOf Try.f59) (by kernel_rfl) (by kernel_rfl) (A := Z30.a) (u := Z30.u) (fun _ _ h => h) (call := D4) (lp := fun n => noL) (D4_ok hX) (fun n => noL_ok) (fun n v K => by kernel_rfl)
def D5 (n : Nat) : CallF := orC 59 Z30.a (Z30.u n) (D4 n)
theorem D5_ok : ∀ n g a K, D5 n g a K -> callM C X0 n g a K := fun n => orC_ok (Z30_ok hX n) (D4_ok hX n)
abbrev Z31.a : List TS := [.a [.o (.int .i64), .o (.int .i64), .o (.int .i64), .o (.int .i64), .o (.int .i64), .o (.dat 105 (.int .u64)), .o (.dat 2 (.int .i64))], .c (.o (.int .i64))]
def Z31.u (n : Nat) (v : VA Z31.a) (K : RES -> Prop) : Prop := Z31.c n v.1.1 v.1.2.1 v.1.2.2.1 v.1.2.2.2.1 v.1.2.2.2.2.1 v.1.2.2.2.2.2.1 v.1.2.2.2.2.2.2.1 v.2.1 (fun r0 => K ⟨.c (.int .i64 r0), []⟩)
theorem Z31_ok : ∀ n v K, Z31.u n v K -> callM C X0 n 44 (fillA Z31.a v) K :=
 call_tell hX (fn := Try.f44) (c := bodyOf Try.f44) (by kernel_rfl) (by kernel_rfl) (A := Z31.a) (u := Z31.u) (fun _ _ h => h) (call := D5) (lp := fun n => noL) (D5_ok hX) (fun n => noL_ok) (fun n v K => by kernel_rfl)
def D6 (n : Nat) : CallF := orC 44 Z31.a (Z31.u n) (D5 n)
theorem D6_ok : ∀ n g a K, D6 n g a K -> callM C X0 n g a K := fun n => orC_ok (Z31_ok hX n) (D5_ok hX n)
abbrev Z32.a : List TS := [.c (.o (.dat 84 Y3)), .c (.o (.int .i64))]
def Z32.u (n : Nat) (v : VA Z32.a) (K : RES -> Prop) : Prop := Z32.c n v.1 v.2.1 (fun r0 => K ⟨.c (.int .i64 r0), []⟩)
abbrev Z32.l5.s : ST := ⟨[(0, .c (.o (.dat 84 Y3))), (1, .c (.o (.int .i64))), (5, .c (.o (.int .i64)))], [], [], [], []⟩
def Z32.l5.u (n : Nat) (v : Z32.l5.s.V) (K : X -> St -> Prop) : Prop := Z32.l5 n v.1.1 v.1.2.1 v.1.2.2.1 (fun y0 => K (.exit 0) ⟨[(1, .c (.int .i64 y0))], [], [], [], []⟩) (fun y0 => K .ret ⟨[(4, .c (.int .i64 y0))], [], [], [], []⟩)
theorem Z32.l5_ok : ∀ n v K, Z32.l5.u n v K -> loopM C X0 n 24 5 (Z32.l5.s.fill v) K :=
 loop_tell hX (fn := Try.f24) (c := bodyOf Try.f24) (a := loopOf Try.f24 5) (li := liOf (C.fi 24).loops 5) (by kernel_rfl) (by kernel_rfl) (of_decide_eq_true rfl) (by kernel_rfl) (by kernel_rfl) (T := Z32.l5.s) (u := Z32.l5.u) (fun _ _ h => h) (call := D6) (lp := fun n => noL) (D6_ok hX) (fun n => noL_ok) (fun n v K => by kernel_rfl)
theorem Z32_ok : ∀ n v K, Z32.u n v K -> callM C X0 n 24 (fillA Z32.a v) K :=
 call_tell hX (fn := Try.f24) (c := bodyOf Try.f24) (by kernel_rfl) (by kernel_rfl) (A := Z32.a) (u := Z32.u) (fun _ _ h => h) (call := D6) (lp := fun n => orL 5 Z32.l5.s (Z32.l5.u n) noL) (D6_ok hX) (fun n => (orL_ok (Z32.l5_ok hX n) noL_ok)) (fun n v K => by kernel_rfl)
def D7 (n : Nat) : CallF := orC 24 Z32.a (Z32.u n) (D6 n)
theorem D7_ok : ∀ n g a K, D7 n g a K -> callM C X0 n g a K := fun n => orC_ok (Z32_ok hX n) (D6_ok hX n)
abbrev Z33.a : List TS := [.a [.o (.dat 84 Y3)], .c (.o (.int .i64))]
def Z33.u (n : Nat) (v : VA Z33.a) (K : RES -> Prop) : Prop := Z33.c n v.1.1 v.2.1 (fun r0 => K ⟨.c (.int .i64 r0), []⟩)
theorem Z33_ok : ∀ n v K, Z33.u n v K -> callM C X0 n 6 (fillA Z33.a v) K :=
 call_tell hX (fn := Try.f6) (c := bodyOf Try.f6) (by kernel_rfl) (by kernel_rfl) (A := Z33.a) (u := Z33.u) (fun _ _ h => h) (call := D7) (lp := fun n => noL) (D7_ok hX) (fun n => noL_ok) (fun n v K => by kernel_rfl)
def D8 (n : Nat) : CallF := orC 6 Z33.a (Z33.u n) (D7 n)
theorem D8_ok : ∀ n g a K, D8 n g a K -> callM C X0 n g a K := fun n => orC_ok (Z33_ok hX n) (D7_ok hX n)
abbrev Z38.a : List TS := [.a [.o .str, .o (.int .i64)]]
def Z38.u (n : Nat) (v : VA Z38.a) (K : RES -> Prop) : Prop := Z38.c n v.1.1 v.1.2.1 (fun r0 r1 => K ⟨.agg [.str r0, .int .i64 r1], []⟩)
theorem Z38_ok : ∀ n v K, Z38.u n v K -> callM C X0 n 26 (fillA Z38.a v) K :=
 call_tell hX (fn := Try.f26) (c := bodyOf Try.f26) (by kernel_rfl) (by kernel_rfl) (A := Z38.a) (u := Z38.u) (fun _ _ h => h) (call := D8) (lp := fun n => noL) (D8_ok hX) (fun n => noL_ok) (fun n v K => by kernel_rfl)
def D9 (n : Nat) : CallF := orC 26 Z38.a (Z38.u n) (D8 n)
theorem D9_ok : ∀ n g a K, D9 n g a K -> callM C X0 n g a K := fun n => orC_ok (Z38_ok hX n) (D8_ok hX n)
abbrev Z39.a : List TS := [.c (.o (.dat 52 Y7))]
def Z39.u (n : Nat) (v : VA Z39.a) (K : RES -> Prop) : Prop := Z39.c n v.1 (fun r0 => K ⟨.c (.row ⟨60, .prod .str (.int .i64), r0, 99, none⟩), []⟩)
abbrev Z39.l3.s : ST := ⟨[(0, .c (.o (.dat 52 Y7))), (3, .c (.o (.own 224))), (4, .c (.o (.int .i64)))], [⟨224, 60, .prod .str (.int .i64), 99⟩], [], [], []⟩
def Z39.l3.u (n : Nat) (v : Z39.l3.s.V) (K : X -> St -> Prop) : Prop := Z39.l3 n v.1.1 v.1.2.2.1 v.2.1.1 (fun y0 => K (.exit 0) ⟨[(3, .c (.own 224))], [(224, ⟨60, .prod .str (.int .i64), y0, 99, none⟩)], [], [], []⟩)
theorem Z39.l3_ok : ∀ n v K, Z39.l3.u n v K -> loopM C X0 n 8 3 (Z39.l3.s.fill v) K :=
 loop_tell hX (fn := Try.f8) (c := bodyOf Try.f8) (a := loopOf Try.f8 3) (li := liOf (C.fi 8).loops 3) (by kernel_rfl) (by kernel_rfl) (of_decide_eq_true rfl) (by kernel_rfl) (by kernel_rfl) (T := Z39.l3.s) (u := Z39.l3.u) (fun _ _ h => h) (call := D9) (lp := fun n => noL) (D9_ok hX) (fun n => noL_ok) (fun n v K => by kernel_rfl)
theorem Z39_ok : ∀ n v K, Z39.u n v K -> callM C X0 n 8 (fillA Z39.a v) K :=
 call_tell hX (fn := Try.f8) (c := bodyOf Try.f8) (by kernel_rfl) (by kernel_rfl) (A := Z39.a) (u := Z39.u) (fun _ _ h => h) (call := D9) (lp := fun n => orL 3 Z39.l3.s (Z39.l3.u n) noL) (D9_ok hX) (fun n => (orL_ok (Z39.l3_ok hX n) noL_ok)) (fun n v K => by kernel_rfl)
def D10 (n : Nat) : CallF := orC 8 Z39.a (Z39.u n) (D9 n)
theorem D10_ok : ∀ n g a K, D10 n g a K -> callM C X0 n g a K := fun n => orC_ok (Z39_ok hX n) (D9_ok hX n)
abbrev Z44.a : List TS := [.c (.o (.dat 105 (.int .u64)))]
def Z44.u (n : Nat) (v : VA Z44.a) (K : RES -> Prop) : Prop := Z44.c n v.1 (fun r0 => K ⟨.c (.row ⟨105, .int .u64, r0, 99, none⟩), []⟩)
abbrev Z44.l3.s : ST := ⟨[(0, .c (.o (.dat 105 (.int .u64)))), (3, .c (.o (.own 224))), (4, .c (.o (.int .i64)))], [⟨224, 105, .int .u64, 99⟩], [], [], []⟩
def Z44.l3.u (n : Nat) (v : Z44.l3.s.V) (K : X -> St -> Prop) : Prop := Z44.l3 n v.1.1 v.1.2.2.1 v.2.1.1 (fun y0 => K (.exit 0) ⟨[(3, .c (.own 224))], [(224, ⟨105, .int .u64, y0, 99, none⟩)], [], [], []⟩)
theorem Z44.l3_ok : ∀ n v K, Z44.l3.u n v K -> loopM C X0 n 75 3 (Z44.l3.s.fill v) K :=
 loop_tell hX (fn := Try.f75) (c := bodyOf Try.f75) (a := loopOf Try.f75 3) (li := liOf (C.fi 75).loops 3) (by kernel_rfl) (by kernel_rfl) (of_decide_eq_true rfl) (by kernel_rfl) (by kernel_rfl) (T := Z44.l3.s) (u := Z44.l3.u) (fun _ _ h => h) (call := D10) (lp := fun n => noL) (D10_ok hX) (fun n => noL_ok) (fun n v K => by kernel_rfl)
theorem Z44_ok : ∀ n v K, Z44.u n v K -> callM C X0 n 75 (fillA Z44.a v) K :=
 call_tell hX (fn := Try.f75) (c := bodyOf Try.f75) (by kernel_rfl) (by kernel_rfl) (A := Z44.a) (u := Z44.u) (fun _ _ h => h) (call := D10) (lp := fun n => orL 3 Z44.l3.s (Z44.l3.u n) noL) (D10_ok hX) (fun n => (orL_ok (Z44.l3_ok hX n) noL_ok)) (fun n v K => by kernel_rfl)
def D11 (n : Nat) : CallF := orC 75 Z44.a (Z44.u n) (D10 n)
theorem D11_ok : ∀ n g a K, D11 n g a K -> callM C X0 n g a K := fun n => orC_ok (Z44_ok hX n) (D10_ok hX n)
abbrev Z37.a : List TS := [.a [.o (.int .i64), .o (.dat 105 (.int .u64))]]
def Z37.u (n : Nat) (v : VA Z37.a) (K : RES -> Prop) : Prop := Z37.c n v.1.1 v.1.2.1 (fun r0 r1 => K ⟨.agg [.int .i64 r0, .row ⟨105, .int .u64, r1, 99, none⟩], []⟩)
theorem Z37_ok : ∀ n v K, Z37.u n v K -> callM C X0 n 62 (fillA Z37.a v) K :=
 call_tell hX (fn := Try.f62) (c := bodyOf Try.f62) (by kernel_rfl) (by kernel_rfl) (A := Z37.a) (u := Z37.u) (fun _ _ h => h) (call := D11) (lp := fun n => noL) (D11_ok hX) (fun n => noL_ok) (fun n v K => by kernel_rfl)
def D12 (n : Nat) : CallF := orC 62 Z37.a (Z37.u n) (D11 n)
theorem D12_ok : ∀ n g a K, D12 n g a K -> callM C X0 n g a K := fun n => orC_ok (Z37_ok hX n) (D11_ok hX n)
abbrev Z40.a : List TS := [.c (.o (.dat 2 (.int .i64)))]
def Z40.u (n : Nat) (v : VA Z40.a) (K : RES -> Prop) : Prop := Z40.c n v.1 (fun r0 => K ⟨.c (.row ⟨2, .int .i64, r0, 99, none⟩), []⟩)
abbrev Z40.l3.s : ST := ⟨[(0, .c (.o (.dat 2 (.int .i64)))), (3, .c (.o (.own 224))), (4, .c (.o (.int .i64)))], [⟨224, 2, .int .i64, 99⟩], [], [], []⟩
def Z40.l3.u (n : Nat) (v : Z40.l3.s.V) (K : X -> St -> Prop) : Prop := Z40.l3 n v.1.1 v.1.2.2.1 v.2.1.1 (fun y0 => K (.exit 0) ⟨[(3, .c (.own 224))], [(224, ⟨2, .int .i64, y0, 99, none⟩)], [], [], []⟩)
theorem Z40.l3_ok : ∀ n v K, Z40.l3.u n v K -> loopM C X0 n 63 3 (Z40.l3.s.fill v) K :=
 loop_tell hX (fn := Try.f63) (c := bodyOf Try.f63) (a := loopOf Try.f63 3) (li := liOf (C.fi 63).loops 3) (by kernel_rfl) (by kernel_rfl) (of_decide_eq_true rfl) (by kernel_rfl) (by kernel_rfl) (T := Z40.l3.s) (u := Z40.l3.u) (fun _ _ h => h) (call := D12) (lp := fun n => noL) (D12_ok hX) (fun n => noL_ok) (fun n v K => by kernel_rfl)
theorem Z40_ok : ∀ n v K, Z40.u n v K -> callM C X0 n 63 (fillA Z40.a v) K :=
 call_tell hX (fn := Try.f63) (c := bodyOf Try.f63) (by kernel_rfl) (by kernel_rfl) (A := Z40.a) (u := Z40.u) (fun _ _ h => h) (call := D12) (lp := fun n => orL 3 Z40.l3.s (Z40.l3.u n) noL) (D12_ok hX) (fun n => (orL_ok (Z40.l3_ok hX n) noL_ok)) (fun n v K => by kernel_rfl)
def D13 (n : Nat) : CallF := orC 63 Z40.a (Z40.u n) (D12 n)
theorem D13_ok : ∀ n g a K, D13 n g a K -> callM C X0 n g a K := fun n => orC_ok (Z40_ok hX n) (D12_ok hX n)
abbrev Z41.a : List TS := [.a [.o (.int .i64), .o (.int .i64), .o (.int .i64), .o (.int .i64), .o (.int .i64), .o (.dat 105 (.int .u64)), .o (.dat 2 (.int .i64))]]
def Z41.u (n : Nat) (v : VA Z41.a) (K : RES -> Prop) : Prop := Z41.c n v.1.1 v.1.2.1 v.1.2.2.1 v.1.2.2.2.1 v.1.2.2.2.2.1 v.1.2.2.2.2.2.1 v.1.2.2.2.2.2.2.1 (fun r0 r1 r2 r3 r4 r5 r6 => K ⟨.agg [.int .i64 r0, .int .i64 r1, .int .i64 r2, .int .i64 r3, .int .i64 r4, .row ⟨105, .int .u64, r5, 99, none⟩, .row ⟨2, .int .i64, r6, 99, none⟩], []⟩)
theorem Z41_ok : ∀ n v K, Z41.u n v K -> callM C X0 n 46 (fillA Z41.a v) K :=
 call_tell hX (fn := Try.f46) (c := bodyOf Try.f46) (by kernel_rfl) (by kernel_rfl) (A := Z41.a) (u := Z41.u) (fun _ _ h => h) (call := D13) (lp := fun n => noL) (D13_ok hX) (fun n => noL_ok) (fun n v K => by kernel_rfl)
def D14 (n : Nat) : CallF := orC 46 Z41.a (Z41.u n) (D13 n)
theorem D14_ok : ∀ n g a K, D14 n g a K -> callM C X0 n g a K := fun n => orC_ok (Z41_ok hX n) (D13_ok hX n)
abbrev Z42.a : List TS := [.c (.o (.dat 84 Y3))]
def Z42.u (n : Nat) (v : VA Z42.a) (K : RES -> Prop) : Prop := Z42.c n v.1 (fun r0 => K ⟨.c (.row ⟨59, .prod (.int .i64) Y4, r0, 99, none⟩), []⟩)
abbrev Z42.l3.s : ST := ⟨[(0, .c (.o (.dat 84 Y3))), (3, .c (.o (.own 224))), (4, .c (.o (.int .i64)))], [⟨224, 59, .prod (.int .i64) Y4, 99⟩], [], [], []⟩
def Z42.l3.u (n : Nat) (v : Z42.l3.s.V) (K : X -> St -> Prop) : Prop := Z42.l3 n v.1.1 v.1.2.2.1 v.2.1.1 (fun y0 => K (.exit 0) ⟨[(3, .c (.own 224))], [(224, ⟨59, .prod (.int .i64) Y4, y0, 99, none⟩)], [], [], []⟩)
theorem Z42.l3_ok : ∀ n v K, Z42.l3.u n v K -> loopM C X0 n 27 3 (Z42.l3.s.fill v) K :=
 loop_tell hX (fn := Try.f27) (c := bodyOf Try.f27) (a := loopOf Try.f27 3) (li := liOf (C.fi 27).loops 3) (by kernel_rfl) (by kernel_rfl) (of_decide_eq_true rfl) (by kernel_rfl) (by kernel_rfl) (T := Z42.l3.s) (u := Z42.l3.u) (fun _ _ h => h) (call := D14) (lp := fun n => noL) (D14_ok hX) (fun n => noL_ok) (fun n v K => by kernel_rfl)
theorem Z42_ok : ∀ n v K, Z42.u n v K -> callM C X0 n 27 (fillA Z42.a v) K :=
 call_tell hX (fn := Try.f27) (c := bodyOf Try.f27) (by kernel_rfl) (by kernel_rfl) (A := Z42.a) (u := Z42.u) (fun _ _ h => h) (call := D14) (lp := fun n => orL 3 Z42.l3.s (Z42.l3.u n) noL) (D14_ok hX) (fun n => (orL_ok (Z42.l3_ok hX n) noL_ok)) (fun n v K => by kernel_rfl)
def D15 (n : Nat) : CallF := orC 27 Z42.a (Z42.u n) (D14 n)
theorem D15_ok : ∀ n g a K, D15 n g a K -> callM C X0 n g a K := fun n => orC_ok (Z42_ok hX n) (D14_ok hX n)
abbrev Z43.a : List TS := [.a [.o (.dat 84 Y3)]]
def Z43.u (n : Nat) (v : VA Z43.a) (K : RES -> Prop) : Prop := Z43.c n v.1.1 (fun r0 => K ⟨.agg [.row ⟨59, .prod (.int .i64) Y4, r0, 99, none⟩], []⟩)
theorem Z43_ok : ∀ n v K, Z43.u n v K -> callM C X0 n 9 (fillA Z43.a v) K :=
 call_tell hX (fn := Try.f9) (c := bodyOf Try.f9) (by kernel_rfl) (by kernel_rfl) (A := Z43.a) (u := Z43.u) (fun _ _ h => h) (call := D15) (lp := fun n => noL) (D15_ok hX) (fun n => noL_ok) (fun n v K => by kernel_rfl)
def D16 (n : Nat) : CallF := orC 9 Z43.a (Z43.u n) (D15 n)
theorem D16_ok : ∀ n g a K, D16 n g a K -> callM C X0 n g a K := fun n => orC_ok (Z43_ok hX n) (D15_ok hX n)
abbrev Z59.a : List TS := [.c (.o (.int .u8))]
def Z59.u (n : Nat) (v : VA Z59.a) (K : RES -> Prop) : Prop := Z59.c n v.1 (fun r0 => K ⟨.c (.bool r0), []⟩)
theorem Z59_ok : ∀ n v K, Z59.u n v K -> callM C X0 n 68 (fillA Z59.a v) K :=
 call_tell hX (fn := Try.f68) (c := bodyOf Try.f68) (by kernel_rfl) (by kernel_rfl) (A := Z59.a) (u := Z59.u) (fun _ _ h => h) (call := D16) (lp := fun n => noL) (D16_ok hX) (fun n => noL_ok) (fun n v K => by kernel_rfl)
def D17 (n : Nat) : CallF := orC 68 Z59.a (Z59.u n) (D16 n)
theorem D17_ok : ∀ n g a K, D17 n g a K -> callM C X0 n g a K := fun n => orC_ok (Z59_ok hX n) (D16_ok hX n)
abbrev Z62.a : List TS := [.c (.o .str)]
def Z62.u (n : Nat) (v : VA Z62.a) (K : RES -> Prop) : Prop := Z62.c n v.1 (fun r0 => K ⟨.c (.bool r0), []⟩)
abbrev Z62.l4.s : ST := ⟨[(0, .c (.o .str)), (3, .c (.o (.int .i64)))], [], [], [], []⟩
def Z62.l4.u (n : Nat) (v : Z62.l4.s.V) (K : X -> St -> Prop) : Prop := Z62.l4 n v.1.1 v.1.2.1 (K (.exit 0) ⟨[], [], [], [], []⟩) (fun y0 => K .ret ⟨[(2, .c (.bool y0))], [], [], [], []⟩)
theorem Z62.l4_ok : ∀ n v K, Z62.l4.u n v K -> loopM C X0 n 53 4 (Z62.l4.s.fill v) K :=
 loop_tell hX (fn := Try.f53) (c := bodyOf Try.f53) (a := loopOf Try.f53 4) (li := liOf (C.fi 53).loops 4) (by kernel_rfl) (by kernel_rfl) (of_decide_eq_true rfl) (by kernel_rfl) (by kernel_rfl) (T := Z62.l4.s) (u := Z62.l4.u) (fun _ _ h => h) (call := D17) (lp := fun n => noL) (D17_ok hX) (fun n => noL_ok) (fun n v K => by kernel_rfl)
theorem Z62_ok : ∀ n v K, Z62.u n v K -> callM C X0 n 53 (fillA Z62.a v) K :=
 call_tell hX (fn := Try.f53) (c := bodyOf Try.f53) (by kernel_rfl) (by kernel_rfl) (A := Z62.a) (u := Z62.u) (fun _ _ h => h) (call := D17) (lp := fun n => orL 4 Z62.l4.s (Z62.l4.u n) noL) (D17_ok hX) (fun n => (orL_ok (Z62.l4_ok hX n) noL_ok)) (fun n v K => by kernel_rfl)
def D18 (n : Nat) : CallF := orC 53 Z62.a (Z62.u n) (D17 n)
theorem D18_ok : ∀ n g a K, D18 n g a K -> callM C X0 n g a K := fun n => orC_ok (Z62_ok hX n) (D17_ok hX n)
abbrev Z61.a : List TS := [.c (.o (.int .i64)), .c (.o (.int .i64)), .c (.o (.int .i64))]
def Z61.u (n : Nat) (v : VA Z61.a) (K : RES -> Prop) : Prop := Z61.c n v.1 v.2.1 v.2.2.1 (fun r0 => K ⟨.c (.bool r0), []⟩)
theorem Z61_ok : ∀ n v K, Z61.u n v K -> callM C X0 n 52 (fillA Z61.a v) K :=
 call_tell hX (fn := Try.f52) (c := bodyOf Try.f52) (by kernel_rfl) (by kernel_rfl) (A := Z61.a) (u := Z61.u) (fun _ _ h => h) (call := D18) (lp := fun n => noL) (D18_ok hX) (fun n => noL_ok) (fun n v K => by kernel_rfl)
def D19 (n : Nat) : CallF := orC 52 Z61.a (Z61.u n) (D18 n)
theorem D19_ok : ∀ n g a K, D19 n g a K -> callM C X0 n g a K := fun n => orC_ok (Z61_ok hX n) (D18_ok hX n)
abbrev Z53.a : List TS := [.c (.o (.dat 60 Y7))]
def Z53.u (n : Nat) (v : VA Z53.a) (K : RES -> Prop) : Prop := Z53.c n v.1 (fun r0 => K ⟨.c (.bool r0), []⟩)
abbrev Z53.l10.s : ST := ⟨[(0, .c (.o (.dat 60 Y7))), (3, .c (.o (.int .i64))), (4, .c (.o (.int .i64))), (5, .c (.o (.int .i64)))], [], [], [], []⟩
def Z53.l10.u (n : Nat) (v : Z53.l10.s.V) (K : X -> St -> Prop) : Prop := Z53.l10 n v.1.1 v.1.2.1 v.1.2.2.1 v.1.2.2.2.1 (fun y0 y1 y2 => K (.exit 2) ⟨[(0, .c (.dat 60 Y7 y0)), (3, .c (.int .i64 y1)), (4, .c (.int .i64 y2))], [], [], [], []⟩) (fun y0 => K .ret ⟨[(2, .c (.bool y0))], [], [], [], []⟩)
abbrev Z53.l5.s : ST := ⟨[(0, .c (.o (.dat 60 Y7))), (3, .c (.o (.int .i64))), (4, .c (.o (.int .i64)))], [], [], [], []⟩
def Z53.l5.u (n : Nat) (v : Z53.l5.s.V) (K : X -> St -> Prop) : Prop := Z53.l5 n v.1.1 v.1.2.1 v.1.2.2.1 (fun y0 => K (.exit 0) ⟨[(3, .c (.int .i64 y0))], [], [], [], []⟩) (fun y0 => K .ret ⟨[(2, .c (.bool y0))], [], [], [], []⟩)
theorem Z53.l10_ok : ∀ n v K, Z53.l10.u n v K -> loopM C X0 n 37 10 (Z53.l10.s.fill v) K :=
 loop_tell hX (fn := Try.f37) (c := bodyOf Try.f37) (a := loopOf Try.f37 10) (li := liOf (C.fi 37).loops 10) (by kernel_rfl) (by kernel_rfl) (of_decide_eq_true rfl) (by kernel_rfl) (by kernel_rfl) (T := Z53.l10.s) (u := Z53.l10.u) (fun _ _ h => h) (call := D19) (lp := fun n => noL) (D19_ok hX) (fun n => noL_ok) (fun n v K => by kernel_rfl)
theorem Z53.l5_ok : ∀ n v K, Z53.l5.u n v K -> loopM C X0 n 37 5 (Z53.l5.s.fill v) K :=
 loop_tell hX (fn := Try.f37) (c := bodyOf Try.f37) (a := loopOf Try.f37 5) (li := liOf (C.fi 37).loops 5) (by kernel_rfl) (by kernel_rfl) (of_decide_eq_true rfl) (by kernel_rfl) (by kernel_rfl) (T := Z53.l5.s) (u := Z53.l5.u) (fun _ _ h => h) (call := D19) (lp := fun n => orL 10 Z53.l10.s (Z53.l10.u n) noL) (D19_ok hX) (fun n => (orL_ok (Z53.l10_ok hX n) noL_ok)) (fun n v K => by kernel_rfl)
theorem Z53_ok : ∀ n v K, Z53.u n v K -> callM C X0 n 37 (fillA Z53.a v) K :=
 call_tell hX (fn := Try.f37) (c := bodyOf Try.f37) (by kernel_rfl) (by kernel_rfl) (A := Z53.a) (u := Z53.u) (fun _ _ h => h) (call := D19) (lp := fun n => orL 5 Z53.l5.s (Z53.l5.u n) noL) (D19_ok hX) (fun n => (orL_ok (Z53.l5_ok hX n) noL_ok)) (fun n v K => by kernel_rfl)
def D20 (n : Nat) : CallF := orC 37 Z53.a (Z53.u n) (D19 n)
theorem D20_ok : ∀ n g a K, D20 n g a K -> callM C X0 n g a K := fun n => orC_ok (Z53_ok hX n) (D19_ok hX n)
abbrev Z64.a : List TS := [.a [.o (.int .i64), .o (.dat 105 (.int .u64))]]
def Z64.u (n : Nat) (v : VA Z64.a) (K : RES -> Prop) : Prop := Z64.c n v.1.1 v.1.2.1 (fun r0 => K ⟨.c (.bool r0), []⟩)
theorem Z64_ok : ∀ n v K, Z64.u n v K -> callM C X0 n 72 (fillA Z64.a v) K :=
 call_tell hX (fn := Try.f72) (c := bodyOf Try.f72) (by kernel_rfl) (by kernel_rfl) (A := Z64.a) (u := Z64.u) (fun _ _ h => h) (call := D20) (lp := fun n => noL) (D20_ok hX) (fun n => noL_ok) (fun n v K => by kernel_rfl)
def D21 (n : Nat) : CallF := orC 72 Z64.a (Z64.u n) (D20 n)
theorem D21_ok : ∀ n g a K, D21 n g a K -> callM C X0 n g a K := fun n => orC_ok (Z64_ok hX n) (D20_ok hX n)
abbrev Z65.a : List TS := [.c (.o (.int .i64))]
def Z65.u (n : Nat) (v : VA Z65.a) (K : RES -> Prop) : Prop := Z65.c n v.1 (fun r0 => K ⟨.c (.bool r0), []⟩)
theorem Z65_ok : ∀ n v K, Z65.u n v K -> callM C X0 n 73 (fillA Z65.a v) K :=
 call_tell hX (fn := Try.f73) (c := bodyOf Try.f73) (by kernel_rfl) (by kernel_rfl) (A := Z65.a) (u := Z65.u) (fun _ _ h => h) (call := D21) (lp := fun n => noL) (D21_ok hX) (fun n => noL_ok) (fun n v K => by kernel_rfl)
def D22 (n : Nat) : CallF := orC 73 Z65.a (Z65.u n) (D21 n)
theorem D22_ok : ∀ n g a K, D22 n g a K -> callM C X0 n g a K := fun n => orC_ok (Z65_ok hX n) (D21_ok hX n)
abbrev Z58.a : List TS := [.a [.o (.int .i64), .o (.dat 105 (.int .u64))], .c (.o (.int .i64))]
def Z58.u (n : Nat) (v : VA Z58.a) (K : RES -> Prop) : Prop := Z58.c n v.1.1 v.1.2.1 v.2.1 (fun r0 => K ⟨.c (.int .u8 r0), []⟩)
theorem Z58_ok : ∀ n v K, Z58.u n v K -> callM C X0 n 91 (fillA Z58.a v) K :=
 call_tell hX (fn := Try.f91) (c := bodyOf Try.f91) (by kernel_rfl) (by kernel_rfl) (A := Z58.a) (u := Z58.u) (fun _ _ h => h) (call := D22) (lp := fun n => noL) (D22_ok hX) (fun n => noL_ok) (fun n v K => by kernel_rfl)
def D23 (n : Nat) : CallF := orC 91 Z58.a (Z58.u n) (D22 n)
theorem D23_ok : ∀ n g a K, D23 n g a K -> callM C X0 n g a K := fun n => orC_ok (Z58_ok hX n) (D22_ok hX n)
abbrev Z52.a : List TS := [.a [.o (.int .i64), .o (.dat 105 (.int .u64))]]
def Z52.u (n : Nat) (v : VA Z52.a) (K : RES -> Prop) : Prop := Z52.c n v.1.1 v.1.2.1 (fun r0 => K ⟨.c (.bool r0), []⟩)
abbrev Z52.l4.s : ST := ⟨[(1, .c (.o (.pbox 1 0))), (3, .c (.o (.int .i64)))], [], [⟨1, 57, [.o (.int .i64), .o (.dat 105 (.int .u64))], false⟩], [], []⟩
def Z52.l4.u (n : Nat) (v : Z52.l4.s.V) (K : X -> St -> Prop) : Prop := Z52.l4 n v.2.2.1.1 v.2.2.1.2.1 v.1.2.1 (K (.exit 0) ⟨[], [], [], [], []⟩) (fun y0 => K .ret ⟨[(2, .c (.bool y0))], [], [], [], []⟩)
theorem Z52.l4_ok : ∀ n v K, Z52.l4.u n v K -> loopM C X0 n 74 4 (Z52.l4.s.fill v) K :=
 loop_tell hX (fn := Try.f74) (c := bodyOf Try.f74) (a := loopOf Try.f74 4) (li := liOf (C.fi 74).loops 4) (by kernel_rfl) (by kernel_rfl) (of_decide_eq_true rfl) (by kernel_rfl) (by kernel_rfl) (T := Z52.l4.s) (u := Z52.l4.u) (fun _ _ h => h) (call := D23) (lp := fun n => noL) (D23_ok hX) (fun n => noL_ok) (fun n v K => by kernel_rfl)
theorem Z52_ok : ∀ n v K, Z52.u n v K -> callM C X0 n 74 (fillA Z52.a v) K :=
 call_tell hX (fn := Try.f74) (c := bodyOf Try.f74) (by kernel_rfl) (by kernel_rfl) (A := Z52.a) (u := Z52.u) (fun _ _ h => h) (call := D23) (lp := fun n => orL 4 Z52.l4.s (Z52.l4.u n) noL) (D23_ok hX) (fun n => (orL_ok (Z52.l4_ok hX n) noL_ok)) (fun n v K => by kernel_rfl)
def D24 (n : Nat) : CallF := orC 74 Z52.a (Z52.u n) (D23 n)
theorem D24_ok : ∀ n g a K, D24 n g a K -> callM C X0 n g a K := fun n => orC_ok (Z52_ok hX n) (D23_ok hX n)
abbrev Z63.a : List TS := [.c (.o (.dat 60 Y7)), .a [.o (.int .i64), .o (.int .i64), .o (.int .i64), .o (.int .i64), .o (.int .i64), .o (.dat 105 (.int .u64)), .o (.dat 2 (.int .i64))], .c (.o (.int .i64))]
def Z63.u (n : Nat) (v : VA Z63.a) (K : RES -> Prop) : Prop := Z63.c n v.1 v.2.1.1 v.2.1.2.1 v.2.1.2.2.1 v.2.1.2.2.2.1 v.2.1.2.2.2.2.1 v.2.1.2.2.2.2.2.1 v.2.1.2.2.2.2.2.2.1 v.2.2.1 (fun r0 => K ⟨.c (.bool r0), []⟩)
abbrev Z63.l2.s : ST := ⟨[(0, .c (.o (.dat 60 Y7))), (2, .c (.o (.int .i64))), (4, .c (.o (.pbox 4 0))), (7, .c (.o (.int .i64)))], [], [⟨4, 59, [.o (.int .i64), .o (.int .i64), .o (.int .i64), .o (.int .i64), .o (.int .i64), .o (.dat 105 (.int .u64)), .o (.dat 2 (.int .i64))], false⟩], [], []⟩
def Z63.l2.u (n : Nat) (v : Z63.l2.s.V) (K : X -> St -> Prop) : Prop := Z63.l2 n v.1.1 v.1.2.1 v.2.2.1.1 v.2.2.1.2.1 v.2.2.1.2.2.1 v.2.2.1.2.2.2.1 v.2.2.1.2.2.2.2.1 v.2.2.1.2.2.2.2.2.1 v.2.2.1.2.2.2.2.2.2.1 v.1.2.2.2.1 (fun y0 y1 y2 y3 y4 y5 y6 y7 => K (.exit 0) ⟨[(0, .c (.dat 60 Y7 y0)), (4, .c (.pbox 4 0))], [], [(4, ⟨59, [.int .i64 y1, .int .i64 y2, .int .i64 y3, .int .i64 y4, .int .i64 y5, .dat 105 (.int .u64) y6, .dat 2 (.int .i64) y7], false⟩)], [], []⟩) (fun y0 => K .ret ⟨[(6, .c (.bool y0))], [], [], [], []⟩)
abbrev Z63.q7.s : ST := ⟨[(0, .c (.o (.dat 60 Y7))), (4, .c (.o (.pbox 4 0))), (63, .c (.o .bool))], [], [⟨4, 59, [.o (.int .i64), .o (.int .i64), .o (.int .i64), .o (.int .i64), .o (.int .i64), .o (.dat 105 (.int .u64)), .o (.dat 2 (.int .i64))], false⟩], [], []⟩
def Z63.q7.u (n : Nat) (v : Z63.q7.s.V) (K : X -> St -> Prop) : Prop := Z63.q7 n v.1.1 v.1.2.2.1 v.2.2.1.1 v.2.2.1.2.1 v.2.2.1.2.2.1 v.2.2.1.2.2.2.1 v.2.2.1.2.2.2.2.1 v.2.2.1.2.2.2.2.2.1 v.2.2.1.2.2.2.2.2.2.1 (fun y0 => K .ret ⟨[(6, .c (.bool y0))], [], [], [], []⟩) (fun y0 y1 y2 y3 y4 y5 y6 y7 => K .normal ⟨[(0, .c (.dat 60 Y7 y0)), (4, .c (.pbox 4 0))], [], [(4, ⟨59, [.int .i64 y1, .int .i64 y2, .int .i64 y3, .int .i64 y4, .int .i64 y5, .dat 105 (.int .u64) y6, .dat 2 (.int .i64) y7], false⟩)], [], []⟩)
abbrev Z63.q8.s : ST := ⟨[(0, .c (.o (.dat 60 Y7))), (4, .c (.o (.pbox 4 0)))], [], [⟨4, 59, [.o (.int .i64), .o (.int .i64), .o (.int .i64), .o (.int .i64), .o (.int .i64), .o (.dat 105 (.int .u64)), .o (.dat 2 (.int .i64))], false⟩], [], []⟩
def Z63.q8.u (n : Nat) (v : Z63.q8.s.V) (K : X -> St -> Prop) : Prop := Z63.q8 n v.1.1 v.2.2.1.1 v.2.2.1.2.1 v.2.2.1.2.2.1 v.2.2.1.2.2.2.1 v.2.2.1.2.2.2.2.1 v.2.2.1.2.2.2.2.2.1 v.2.2.1.2.2.2.2.2.2.1 (fun y0 => K .ret ⟨[(6, .c (.bool y0))], [], [], [], []⟩)
theorem Z63.l2_ok : ∀ n v K, Z63.l2.u n v K -> loopM C X0 n 60 2 (Z63.l2.s.fill v) K :=
 loop_tell hX (fn := Try.f60) (c := bodyOf Try.f60) (a := loopOf Try.f60 2) (li := liOf (C.fi 60).loops 2) (by kernel_rfl) (by kernel_rfl) (of_decide_eq_true rfl) (by kernel_rfl) (by kernel_rfl) (T := Z63.l2.s) (u := Z63.l2.u) (fun _ _ h => h) (call := D24) (lp := fun n => noL) (D24_ok hX) (fun n => noL_ok) (fun n v K => by kernel_rfl)
theorem Z63.q7_ok : ∀ n v K, Z63.q7.u n v K -> loopM C X0 n 60 1000007 (Z63.q7.s.fill v) K :=
 cut_tell hX (fn := Try.f60) (c := bodyOf Try.f60) (a := cutOf Try.f60 7) (li := liOf (C.fi 60).loops 1000007) (by kernel_rfl) (by kernel_rfl) (of_decide_eq_true rfl) (by kernel_rfl) (by kernel_rfl) (T := Z63.q7.s) (u := Z63.q7.u) (fun _ _ h => h) (call := D24) (lp := fun n => noL) (D24_ok hX) (fun n => noL_ok) (fun n v K => by kernel_rfl)
theorem Z63.q8_ok : ∀ n v K, Z63.q8.u n v K -> loopM C X0 n 60 1000008 (Z63.q8.s.fill v) K :=
 cut_tell hX (fn := Try.f60) (c := bodyOf Try.f60) (a := cutOf Try.f60 8) (li := liOf (C.fi 60).loops 1000008) (by kernel_rfl) (by kernel_rfl) (of_decide_eq_true rfl) (by kernel_rfl) (by kernel_rfl) (T := Z63.q8.s) (u := Z63.q8.u) (fun _ _ h => h) (call := D24) (lp := fun n => noL) (D24_ok hX) (fun n => noL_ok) (fun n v K => by kernel_rfl)
theorem Z63_ok : ∀ n v K, Z63.u n v K -> callM C X0 n 60 (fillA Z63.a v) K :=
 call_tell hX (fn := Try.f60) (c := bodyOf Try.f60) (by kernel_rfl) (by kernel_rfl) (A := Z63.a) (u := Z63.u) (fun _ _ h => h) (call := D24) (lp := fun n => orL 2 Z63.l2.s (Z63.l2.u n) (orL 1000007 Z63.q7.s (Z63.q7.u n) (orL 1000008 Z63.q8.s (Z63.q8.u n) noL))) (D24_ok hX) (fun n => (orL_ok (Z63.l2_ok hX n) (orL_ok (Z63.q7_ok hX n) (orL_ok (Z63.q8_ok hX n) noL_ok)))) (fun n v K => by kernel_rfl)
def D25 (n : Nat) : CallF := orC 60 Z63.a (Z63.u n) (D24 n)
theorem D25_ok : ∀ n g a K, D25 n g a K -> callM C X0 n g a K := fun n => orC_ok (Z63_ok hX n) (D24_ok hX n)
abbrev Z66.a : List TS := [.c (.o (.dat 60 Y7)), .a [.o (.int .i64), .o (.int .i64), .o (.int .i64), .o (.int .i64), .o (.int .i64), .o (.dat 105 (.int .u64)), .o (.dat 2 (.int .i64))], .c (.o (.dat 2 (.int .i64)))]
def Z66.u (n : Nat) (v : VA Z66.a) (K : RES -> Prop) : Prop := Z66.c n v.1 v.2.1.1 v.2.1.2.1 v.2.1.2.2.1 v.2.1.2.2.2.1 v.2.1.2.2.2.2.1 v.2.1.2.2.2.2.2.1 v.2.1.2.2.2.2.2.2.1 v.2.2.1 (fun r0 => K ⟨.c (.int .i64 r0), []⟩)
abbrev Z66.l3.s : ST := ⟨[(0, .c (.o (.dat 60 Y7))), (2, .c (.o (.dat 2 (.int .i64)))), (4, .c (.o (.pbox 4 0))), (7, .c (.o (.int .i64))), (8, .c (.o (.int .i64)))], [], [⟨4, 59, [.o (.int .i64), .o (.int .i64), .o (.int .i64), .o (.int .i64), .o (.int .i64), .o (.dat 105 (.int .u64)), .o (.dat 2 (.int .i64))], false⟩], [], []⟩
def Z66.l3.u (n : Nat) (v : Z66.l3.s.V) (K : X -> St -> Prop) : Prop := Z66.l3 n v.1.1 v.1.2.1 v.2.2.1.1 v.2.2.1.2.1 v.2.2.1.2.2.1 v.2.2.1.2.2.2.1 v.2.2.1.2.2.2.2.1 v.2.2.1.2.2.2.2.2.1 v.2.2.1.2.2.2.2.2.2.1 v.1.2.2.2.1 v.1.2.2.2.2.1 (fun y0 y1 y2 y3 y4 y5 y6 y7 y8 => K (.exit 0) ⟨[(0, .c (.dat 60 Y7 y0)), (4, .c (.pbox 4 0)), (7, .c (.int .i64 y1))], [], [(4, ⟨59, [.int .i64 y2, .int .i64 y3, .int .i64 y4, .int .i64 y5, .int .i64 y6, .dat 105 (.int .u64) y7, .dat 2 (.int .i64) y8], false⟩)], [], []⟩)
theorem Z66.l3_ok : ∀ n v K, Z66.l3.u n v K -> loopM C X0 n 61 3 (Z66.l3.s.fill v) K :=
 loop_tell hX (fn := Try.f61) (c := bodyOf Try.f61) (a := loopOf Try.f61 3) (li := liOf (C.fi 61).loops 3) (by kernel_rfl) (by kernel_rfl) (of_decide_eq_true rfl) (by kernel_rfl) (by kernel_rfl) (T := Z66.l3.s) (u := Z66.l3.u) (fun _ _ h => h) (call := D25) (lp := fun n => noL) (D25_ok hX) (fun n => noL_ok) (fun n v K => by kernel_rfl)
theorem Z66_ok : ∀ n v K, Z66.u n v K -> callM C X0 n 61 (fillA Z66.a v) K :=
 call_tell hX (fn := Try.f61) (c := bodyOf Try.f61) (by kernel_rfl) (by kernel_rfl) (A := Z66.a) (u := Z66.u) (fun _ _ h => h) (call := D25) (lp := fun n => orL 3 Z66.l3.s (Z66.l3.u n) noL) (D25_ok hX) (fun n => (orL_ok (Z66.l3_ok hX n) noL_ok)) (fun n v K => by kernel_rfl)
def D26 (n : Nat) : CallF := orC 61 Z66.a (Z66.u n) (D25 n)
theorem D26_ok : ∀ n g a K, D26 n g a K -> callM C X0 n g a K := fun n => orC_ok (Z66_ok hX n) (D25_ok hX n)
abbrev Z67.a : List TS := [.c (.o (.dat 60 Y7)), .a [.o (.dat 59 Y3)]]
def Z67.u (n : Nat) (v : VA Z67.a) (K : RES -> Prop) : Prop := Z67.c n v.1 v.2.1.1 (fun r0 => K ⟨.c (.row ⟨2, .int .i64, r0, 99, none⟩), []⟩)
abbrev Z67.l16.s : ST := ⟨[(0, .c (.o (.dat 60 Y7))), (3, .c (.o (.pbox 3 0))), (5, .c (.o (.own 384))), (6, .c (.o (.own 2112))), (7, .c (.o (.own 1056))), (8, .c (.o (.int .i64))), (10, .c (.o (.int .i64)))], [⟨384, 2, .int .i64, 99⟩, ⟨1056, 4, .bool, 99⟩, ⟨2112, 2, .int .i64, 99⟩], [⟨3, 34, [.o (.dat 59 Y3)], false⟩], [], []⟩
def Z67.l16.u (n : Nat) (v : Z67.l16.s.V) (K : X -> St -> Prop) : Prop := Z67.l16 n v.1.1 v.1.2.2.2.2.2.1 v.2.1.1 v.2.1.2.2.1 v.2.2.1.1 v.1.2.2.2.2.2.2.1 v.2.1.2.1 (fun y0 y1 y2 y3 y4 y5 => K (.exit 2) ⟨[(0, .c (.dat 60 Y7 y0)), (3, .c (.pbox 3 0)), (5, .c (.own 384)), (6, .c (.own 2112)), (7, .c (.own 1056)), (8, .c (.int .i64 y1))], [(384, ⟨2, .int .i64, y2, 99, none⟩), (1056, ⟨4, .bool, y3, 99, none⟩), (2112, ⟨2, .int .i64, y4, 99, none⟩)], [(3, ⟨34, [.dat 59 Y3 y5], false⟩)], [], []⟩)
abbrev Z67.l7.s : ST := ⟨[(0, .c (.o (.dat 60 Y7))), (3, .c (.o (.pbox 3 0))), (5, .c (.o (.own 384))), (6, .c (.o (.own 192))), (7, .c (.o (.own 1056))), (8, .c (.o (.int .i64)))], [⟨192, 2, .int .i64, 99⟩, ⟨384, 2, .int .i64, 99⟩, ⟨1056, 4, .bool, 99⟩], [⟨3, 34, [.o (.dat 59 Y3)], false⟩], [], []⟩
def Z67.l7.u (n : Nat) (v : Z67.l7.s.V) (K : X -> St -> Prop) : Prop := Z67.l7 n v.1.1 v.1.2.2.2.2.2.1 v.2.1.1 v.2.1.2.1 v.2.1.2.2.1 v.2.2.1.1 (fun y0 y1 y2 => K (.exit 0) ⟨[(5, .c (.own 384)), (6, .c (.own 192)), (7, .c (.own 1056))], [(192, ⟨2, .int .i64, y0, 99, none⟩), (384, ⟨2, .int .i64, y1, 99, none⟩), (1056, ⟨4, .bool, y2, 99, none⟩)], [], [], []⟩) (fun y0 => K .ret ⟨[(4, .c (.own 384))], [(384, ⟨2, .int .i64, y0, 99, none⟩)], [], [], []⟩)
abbrev Z67.l20.s : ST := ⟨[(5, .c (.o (.own 384))), (6, .c (.o (.own 192))), (7, .c (.o (.own 1056))), (11, .c (.o (.int .i64)))], [⟨192, 2, .int .i64, 99⟩, ⟨384, 2, .int .i64, 99⟩, ⟨1056, 4, .bool, 99⟩], [], [], []⟩
def Z67.l20.u (n : Nat) (v : Z67.l20.s.V) (K : X -> St -> Prop) : Prop := Z67.l20 n v.2.1.1 v.2.1.2.1 v.2.1.2.2.1 v.1.2.2.2.1 (fun y0 => K (.exit 4) ⟨[(6, .c (.own 192))], [(192, ⟨2, .int .i64, y0, 99, none⟩)], [], [], []⟩) (fun y0 => K .ret ⟨[(4, .c (.own 384))], [(384, ⟨2, .int .i64, y0, 99, none⟩)], [], [], []⟩)
theorem Z67.l16_ok : ∀ n v K, Z67.l16.u n v K -> loopM C X0 n 45 16 (Z67.l16.s.fill v) K :=
 loop_tell hX (fn := Try.f45) (c := bodyOf Try.f45) (a := loopOf Try.f45 16) (li := liOf (C.fi 45).loops 16) (by kernel_rfl) (by kernel_rfl) (of_decide_eq_true rfl) (by kernel_rfl) (by kernel_rfl) (T := Z67.l16.s) (u := Z67.l16.u) (fun _ _ h => h) (call := D26) (lp := fun n => noL) (D26_ok hX) (fun n => noL_ok) (fun n v K => by kernel_rfl)
theorem Z67.l7_ok : ∀ n v K, Z67.l7.u n v K -> loopM C X0 n 45 7 (Z67.l7.s.fill v) K :=
 loop_tell hX (fn := Try.f45) (c := bodyOf Try.f45) (a := loopOf Try.f45 7) (li := liOf (C.fi 45).loops 7) (by kernel_rfl) (by kernel_rfl) (of_decide_eq_true rfl) (by kernel_rfl) (by kernel_rfl) (T := Z67.l7.s) (u := Z67.l7.u) (fun _ _ h => h) (call := D26) (lp := fun n => orL 16 Z67.l16.s (Z67.l16.u n) noL) (D26_ok hX) (fun n => (orL_ok (Z67.l16_ok hX n) noL_ok)) (fun n v K => by kernel_rfl)
theorem Z67.l20_ok : ∀ n v K, Z67.l20.u n v K -> loopM C X0 n 45 20 (Z67.l20.s.fill v) K :=
 loop_tell hX (fn := Try.f45) (c := bodyOf Try.f45) (a := loopOf Try.f45 20) (li := liOf (C.fi 45).loops 20) (by kernel_rfl) (by kernel_rfl) (of_decide_eq_true rfl) (by kernel_rfl) (by kernel_rfl) (T := Z67.l20.s) (u := Z67.l20.u) (fun _ _ h => h) (call := D26) (lp := fun n => noL) (D26_ok hX) (fun n => noL_ok) (fun n v K => by kernel_rfl)
theorem Z67_ok : ∀ n v K, Z67.u n v K -> callM C X0 n 45 (fillA Z67.a v) K :=
 call_tell hX (fn := Try.f45) (c := bodyOf Try.f45) (by kernel_rfl) (by kernel_rfl) (A := Z67.a) (u := Z67.u) (fun _ _ h => h) (call := D26) (lp := fun n => orL 7 Z67.l7.s (Z67.l7.u n) (orL 20 Z67.l20.s (Z67.l20.u n) noL)) (D26_ok hX) (fun n => (orL_ok (Z67.l7_ok hX n) (orL_ok (Z67.l20_ok hX n) noL_ok))) (fun n v K => by kernel_rfl)
def D27 (n : Nat) : CallF := orC 45 Z67.a (Z67.u n) (D26 n)
theorem D27_ok : ∀ n g a K, D27 n g a K -> callM C X0 n g a K := fun n => orC_ok (Z67_ok hX n) (D26_ok hX n)
abbrev Z56.a : List TS := [.c (.o (.dat 60 Y7)), .a [.o (.dat 59 Y3)]]
def Z56.u (n : Nat) (v : VA Z56.a) (K : RES -> Prop) : Prop := Z56.c n v.1 v.2.1.1 (fun r0 => K ⟨.c (.int .i64 r0), []⟩)
theorem Z56_ok : ∀ n v K, Z56.u n v K -> callM C X0 n 25 (fillA Z56.a v) K :=
 call_tell hX (fn := Try.f25) (c := bodyOf Try.f25) (by kernel_rfl) (by kernel_rfl) (A := Z56.a) (u := Z56.u) (fun _ _ h => h) (call := D27) (lp := fun n => noL) (D27_ok hX) (fun n => noL_ok) (fun n v K => by kernel_rfl)
def D28 (n : Nat) : CallF := orC 25 Z56.a (Z56.u n) (D27 n)
theorem D28_ok : ∀ n g a K, D28 n g a K -> callM C X0 n g a K := fun n => orC_ok (Z56_ok hX n) (D27_ok hX n)
abbrev Z55.a : List TS := [.c (.o (.dat 60 Y7)), .a [.o (.dat 59 Y3)]]
def Z55.u (n : Nat) (v : VA Z55.a) (K : RES -> Prop) : Prop := Z55.c n v.1 v.2.1.1 (fun r0 => K ⟨.c (.row ⟨2, .int .i64, r0, 99, none⟩), []⟩)
abbrev Z55.l8.s : ST := ⟨[(0, .c (.o (.dat 60 Y7))), (3, .c (.o (.pbox 3 0))), (5, .c (.o (.own 160))), (6, .c (.o (.int .i64))), (7, .c (.o (.int .i64)))], [⟨160, 2, .int .i64, 99⟩], [⟨3, 34, [.o (.dat 59 Y3)], false⟩], [], []⟩
def Z55.l8.u (n : Nat) (v : Z55.l8.s.V) (K : X -> St -> Prop) : Prop := Z55.l8 n v.1.1 v.1.2.2.2.1 v.2.1.1 v.2.2.1.1 v.1.2.2.2.2.1 (fun y0 y1 y2 y3 => K (.exit 2) ⟨[(0, .c (.dat 60 Y7 y0)), (3, .c (.pbox 3 0)), (5, .c (.own 160)), (6, .c (.int .i64 y1))], [(160, ⟨2, .int .i64, y2, 99, none⟩)], [(3, ⟨34, [.dat 59 Y3 y3], false⟩)], [], []⟩)
abbrev Z55.l5.s : ST := ⟨[(0, .c (.o (.dat 60 Y7))), (3, .c (.o (.pbox 3 0))), (5, .c (.o (.own 160))), (6, .c (.o (.int .i64)))], [⟨160, 2, .int .i64, 99⟩], [⟨3, 34, [.o (.dat 59 Y3)], false⟩], [], []⟩
def Z55.l5.u (n : Nat) (v : Z55.l5.s.V) (K : X -> St -> Prop) : Prop := Z55.l5 n v.1.1 v.1.2.2.2.1 v.2.1.1 v.2.2.1.1 (fun y0 => K (.exit 0) ⟨[(5, .c (.own 160))], [(160, ⟨2, .int .i64, y0, 99, none⟩)], [], [], []⟩)
theorem Z55.l8_ok : ∀ n v K, Z55.l8.u n v K -> loopM C X0 n 7 8 (Z55.l8.s.fill v) K :=
 loop_tell hX (fn := Try.f7) (c := bodyOf Try.f7) (a := loopOf Try.f7 8) (li := liOf (C.fi 7).loops 8) (by kernel_rfl) (by kernel_rfl) (of_decide_eq_true rfl) (by kernel_rfl) (by kernel_rfl) (T := Z55.l8.s) (u := Z55.l8.u) (fun _ _ h => h) (call := D28) (lp := fun n => noL) (D28_ok hX) (fun n => noL_ok) (fun n v K => by kernel_rfl)
theorem Z55.l5_ok : ∀ n v K, Z55.l5.u n v K -> loopM C X0 n 7 5 (Z55.l5.s.fill v) K :=
 loop_tell hX (fn := Try.f7) (c := bodyOf Try.f7) (a := loopOf Try.f7 5) (li := liOf (C.fi 7).loops 5) (by kernel_rfl) (by kernel_rfl) (of_decide_eq_true rfl) (by kernel_rfl) (by kernel_rfl) (T := Z55.l5.s) (u := Z55.l5.u) (fun _ _ h => h) (call := D28) (lp := fun n => orL 8 Z55.l8.s (Z55.l8.u n) noL) (D28_ok hX) (fun n => (orL_ok (Z55.l8_ok hX n) noL_ok)) (fun n v K => by kernel_rfl)
theorem Z55_ok : ∀ n v K, Z55.u n v K -> callM C X0 n 7 (fillA Z55.a v) K :=
 call_tell hX (fn := Try.f7) (c := bodyOf Try.f7) (by kernel_rfl) (by kernel_rfl) (A := Z55.a) (u := Z55.u) (fun _ _ h => h) (call := D28) (lp := fun n => orL 5 Z55.l5.s (Z55.l5.u n) noL) (D28_ok hX) (fun n => (orL_ok (Z55.l5_ok hX n) noL_ok)) (fun n v K => by kernel_rfl)
def D29 (n : Nat) : CallF := orC 7 Z55.a (Z55.u n) (D28 n)
theorem D29_ok : ∀ n g a K, D29 n g a K -> callM C X0 n g a K := fun n => orC_ok (Z55_ok hX n) (D28_ok hX n)
abbrev Z10.a : List TS := [.c (.o .str)]
def Z10.u (n : Nat) (v : VA Z10.a) (K : RES -> Prop) : Prop := Z10.c n v.1 (fun r0 => K ⟨.c (.bool r0), []⟩)
abbrev Z10.l4.s : ST := ⟨[(0, .c (.o .str)), (3, .c (.o (.int .i64)))], [], [], [], []⟩
def Z10.l4.u (n : Nat) (v : Z10.l4.s.V) (K : X -> St -> Prop) : Prop := Z10.l4 n v.1.1 v.1.2.1 (K (.exit 0) ⟨[], [], [], [], []⟩) (fun y0 => K .ret ⟨[(2, .c (.bool y0))], [], [], [], []⟩)
theorem Z10.l4_ok : ∀ n v K, Z10.l4.u n v K -> loopM C X0 n 54 4 (Z10.l4.s.fill v) K :=
 loop_tell hX (fn := Try.f54) (c := bodyOf Try.f54) (a := loopOf Try.f54 4) (li := liOf (C.fi 54).loops 4) (by kernel_rfl) (by kernel_rfl) (of_decide_eq_true rfl) (by kernel_rfl) (by kernel_rfl) (T := Z10.l4.s) (u := Z10.l4.u) (fun _ _ h => h) (call := D29) (lp := fun n => noL) (D29_ok hX) (fun n => noL_ok) (fun n v K => by kernel_rfl)
theorem Z10_ok : ∀ n v K, Z10.u n v K -> callM C X0 n 54 (fillA Z10.a v) K :=
 call_tell hX (fn := Try.f54) (c := bodyOf Try.f54) (by kernel_rfl) (by kernel_rfl) (A := Z10.a) (u := Z10.u) (fun _ _ h => h) (call := D29) (lp := fun n => orL 4 Z10.l4.s (Z10.l4.u n) noL) (D29_ok hX) (fun n => (orL_ok (Z10.l4_ok hX n) noL_ok)) (fun n v K => by kernel_rfl)
def D30 (n : Nat) : CallF := orC 54 Z10.a (Z10.u n) (D29 n)
theorem D30_ok : ∀ n g a K, D30 n g a K -> callM C X0 n g a K := fun n => orC_ok (Z10_ok hX n) (D29_ok hX n)
abbrev Z9.a : List TS := [.c (.o (.int .i64)), .c (.o (.int .i64)), .c (.o (.int .i64))]
def Z9.u (n : Nat) (v : VA Z9.a) (K : RES -> Prop) : Prop := Z9.c n v.1 v.2.1 v.2.2.1 (fun r0 => K ⟨.c (.bool r0), []⟩)
theorem Z9_ok : ∀ n v K, Z9.u n v K -> callM C X0 n 55 (fillA Z9.a v) K :=
 call_tell hX (fn := Try.f55) (c := bodyOf Try.f55) (by kernel_rfl) (by kernel_rfl) (A := Z9.a) (u := Z9.u) (fun _ _ h => h) (call := D30) (lp := fun n => noL) (D30_ok hX) (fun n => noL_ok) (fun n v K => by kernel_rfl)
def D31 (n : Nat) : CallF := orC 55 Z9.a (Z9.u n) (D30 n)
theorem D31_ok : ∀ n g a K, D31 n g a K -> callM C X0 n g a K := fun n => orC_ok (Z9_ok hX n) (D30_ok hX n)
abbrev Z8.a : List TS := [.a [.o .str, .o (.int .i64)], .c (.o (.pdat 9 .str 0))]
def Z8.u (n : Nat) (v : VA Z8.a) (K : RES -> Prop) : Prop := Z8.c n v.1.1 v.1.2.1 v.2.1 (fun r0 => K ⟨.c (.bool r0), []⟩)
theorem Z8_ok : ∀ n v K, Z8.u n v K -> callM C X0 n 70 (fillA Z8.a v) K :=
 call_tell hX (fn := Try.f70) (c := bodyOf Try.f70) (by kernel_rfl) (by kernel_rfl) (A := Z8.a) (u := Z8.u) (fun _ _ h => h) (call := D31) (lp := fun n => noL) (D31_ok hX) (fun n => noL_ok) (fun n v K => by kernel_rfl)
def D32 (n : Nat) : CallF := orC 70 Z8.a (Z8.u n) (D31 n)
theorem D32_ok : ∀ n g a K, D32 n g a K -> callM C X0 n g a K := fun n => orC_ok (Z8_ok hX n) (D31_ok hX n)
abbrev Z48.a : List TS := [.c (.o (.dat 60 Y7)), .c (.fn 70 [(false, 1)] 0 [.pdat 9 .str 0])]
def Z48.u (n : Nat) (v : VA Z48.a) (K : RES -> Prop) : Prop := Z48.c n v.1 v.2.1.1 (fun r0 => K ⟨.c (.int .i64 r0), []⟩)
abbrev Z48.l2.s : ST := ⟨[(0, .c (.o (.dat 60 Y7))), (1, .c (.fn 70 [(false, 1)] 0 [.pdat 9 .str 0])), (7, .c (.o (.int .i64))), (8, .c (.o (.int .i64)))], [], [], [], []⟩
def Z48.l2.u (n : Nat) (v : Z48.l2.s.V) (K : X -> St -> Prop) : Prop := Z48.l2 n v.1.1 v.1.2.1.1 v.1.2.2.1 v.1.2.2.2.1 (K (.exit 0) ⟨[], [], [], [], []⟩) (fun y0 => K .ret ⟨[(4, .c (.int .i64 y0))], [], [], [], []⟩)
theorem Z48.l2_ok : ∀ n v K, Z48.l2.u n v K -> loopM C X0 n 69 2 (Z48.l2.s.fill v) K :=
 loop_tell hX (fn := Try.f69) (c := bodyOf Try.f69) (a := loopOf Try.f69 2) (li := liOf (C.fi 69).loops 2) (by kernel_rfl) (by kernel_rfl) (of_decide_eq_true rfl) (by kernel_rfl) (by kernel_rfl) (T := Z48.l2.s) (u := Z48.l2.u) (fun _ _ h => h) (call := D32) (lp := fun n => noL) (D32_ok hX) (fun n => noL_ok) (fun n v K => by kernel_rfl)
theorem Z48_ok : ∀ n v K, Z48.u n v K -> callM C X0 n 69 (fillA Z48.a v) K :=
 call_tell hX (fn := Try.f69) (c := bodyOf Try.f69) (by kernel_rfl) (by kernel_rfl) (A := Z48.a) (u := Z48.u) (fun _ _ h => h) (call := D32) (lp := fun n => orL 2 Z48.l2.s (Z48.l2.u n) noL) (D32_ok hX) (fun n => (orL_ok (Z48.l2_ok hX n) noL_ok)) (fun n v K => by kernel_rfl)
def D33 (n : Nat) : CallF := orC 69 Z48.a (Z48.u n) (D32 n)
theorem D33_ok : ∀ n g a K, D33 n g a K -> callM C X0 n g a K := fun n => orC_ok (Z48_ok hX n) (D32_ok hX n)
abbrev Z7.a : List TS := [.c (.o (.dat 60 Y7)), .c (.o .str)]
def Z7.u (n : Nat) (v : VA Z7.a) (K : RES -> Prop) : Prop := Z7.c n v.1 v.2.1 (fun r0 => K ⟨.c (.int .i64 r0), []⟩)
theorem Z7_ok : ∀ n v K, Z7.u n v K -> callM C X0 n 56 (fillA Z7.a v) K :=
 call_tell hX (fn := Try.f56) (c := bodyOf Try.f56) (by kernel_rfl) (by kernel_rfl) (A := Z7.a) (u := Z7.u) (fun _ _ h => h) (call := D33) (lp := fun n => noL) (D33_ok hX) (fun n => noL_ok) (fun n v K => by kernel_rfl)
def D34 (n : Nat) : CallF := orC 56 Z7.a (Z7.u n) (D33 n)
theorem D34_ok : ∀ n g a K, D34 n g a K -> callM C X0 n g a K := fun n => orC_ok (Z7_ok hX n) (D33_ok hX n)
abbrev Z1.a : List TS := [.c (.o (.dat 60 Y7))]
def Z1.u (n : Nat) (v : VA Z1.a) (K : RES -> Prop) : Prop := Z1.c n v.1 (fun r0 => K ⟨.c (.bool r0), []⟩)
abbrev Z1.l5.s : ST := ⟨[(0, .c (.o (.dat 60 Y7))), (3, .c (.o (.int .i64))), (9, .c (.o (.dat 60 Y7))), (10, .c (.o (.int .i64))), (11, .c (.o (.int .i64)))], [], [], [], []⟩
def Z1.l5.u (n : Nat) (v : Z1.l5.s.V) (K : X -> St -> Prop) : Prop := Z1.l5 n v.1.1 v.1.2.2.1 v.1.2.2.2.1 v.1.2.1 v.1.2.2.2.2.1 (fun y0 => K (.exit 0) ⟨[(3, .c (.int .i64 y0))], [], [], [], []⟩) (fun y0 => K .ret ⟨[(2, .c (.bool y0))], [], [], [], []⟩)
theorem Z1.l5_ok : ∀ n v K, Z1.l5.u n v K -> loopM C X0 n 39 5 (Z1.l5.s.fill v) K :=
 loop_tell hX (fn := Try.f39) (c := bodyOf Try.f39) (a := loopOf Try.f39 5) (li := liOf (C.fi 39).loops 5) (by kernel_rfl) (by kernel_rfl) (of_decide_eq_true rfl) (by kernel_rfl) (by kernel_rfl) (T := Z1.l5.s) (u := Z1.l5.u) (fun _ _ h => h) (call := D34) (lp := fun n => noL) (D34_ok hX) (fun n => noL_ok) (fun n v K => by kernel_rfl)
theorem Z1_ok : ∀ n v K, Z1.u n v K -> callM C X0 n 39 (fillA Z1.a v) K :=
 call_tell hX (fn := Try.f39) (c := bodyOf Try.f39) (by kernel_rfl) (by kernel_rfl) (A := Z1.a) (u := Z1.u) (fun _ _ h => h) (call := D34) (lp := fun n => orL 5 Z1.l5.s (Z1.l5.u n) noL) (D34_ok hX) (fun n => (orL_ok (Z1.l5_ok hX n) noL_ok)) (fun n v K => by kernel_rfl)
def D35 (n : Nat) : CallF := orC 39 Z1.a (Z1.u n) (D34 n)
theorem D35_ok : ∀ n g a K, D35 n g a K -> callM C X0 n g a K := fun n => orC_ok (Z1_ok hX n) (D34_ok hX n)
abbrev Z14.a : List TS := [.c (.o (.int .i64))]
def Z14.u (n : Nat) (v : VA Z14.a) (K : RES -> Prop) : Prop := Z14.c n v.1 (fun r0 => K ⟨.c (.int .i64 r0), []⟩)
theorem Z14_ok : ∀ n v K, Z14.u n v K -> callM C X0 n 100 (fillA Z14.a v) K :=
 call_tell hX (fn := Try.f100) (c := bodyOf Try.f100) (by kernel_rfl) (by kernel_rfl) (A := Z14.a) (u := Z14.u) (fun _ _ h => h) (call := D35) (lp := fun n => noL) (D35_ok hX) (fun n => noL_ok) (fun n v K => by kernel_rfl)
def D36 (n : Nat) : CallF := orC 100 Z14.a (Z14.u n) (D35 n)
theorem D36_ok : ∀ n g a K, D36 n g a K -> callM C X0 n g a K := fun n => orC_ok (Z14_ok hX n) (D35_ok hX n)
abbrev Z0.a : List TS := [.a [.o (.int .i64), .o (.dat 105 (.int .u64))]]
def Z0.u (n : Nat) (v : VA Z0.a) (K : RES -> Prop) : Prop := Z0.c n v.1.1 v.1.2.1 (fun r0 => K ⟨.c (.bool r0), []⟩)
theorem Z0_ok : ∀ n v K, Z0.u n v K -> callM C X0 n 92 (fillA Z0.a v) K :=
 call_tell hX (fn := Try.f92) (c := bodyOf Try.f92) (by kernel_rfl) (by kernel_rfl) (A := Z0.a) (u := Z0.u) (fun _ _ h => h) (call := D36) (lp := fun n => noL) (D36_ok hX) (fun n => noL_ok) (fun n v K => by kernel_rfl)
def D37 (n : Nat) : CallF := orC 92 Z0.a (Z0.u n) (D36 n)
theorem D37_ok : ∀ n g a K, D37 n g a K -> callM C X0 n g a K := fun n => orC_ok (Z0_ok hX n) (D36_ok hX n)
abbrev Z5.a : List TS := [.c (.o (.pdat 59 Y3 0)), .c (.o (.dat 60 Y7)), .c (.o (.dat 2 (.int .i64)))]
def Z5.u (n : Nat) (v : VA Z5.a) (K : RES -> Prop) : Prop := Z5.c n v.1 v.2.1 v.2.2.1 (fun r0 => K ⟨.c (.int .i64 r0), []⟩)
abbrev Z5.l11.s : ST := ⟨[(8, .c (.o (.int .i64))), (80, .c (.o (.dat 2 (.int .i64)))), (81, .c (.o (.int .i64))), (82, .c (.o (.int .i64)))], [], [], [], []⟩
def Z5.l11.u (n : Nat) (v : Z5.l11.s.V) (K : X -> St -> Prop) : Prop := Z5.l11 n v.1.2.1 v.1.2.2.1 v.1.1 v.1.2.2.2.1 (fun y0 => K (.exit 1) ⟨[(8, .c (.int .i64 y0))], [], [], [], []⟩)
abbrev Z5.q21.s : ST := ⟨[(0, .c (.o (.pdat 59 Y3 0))), (7, .c (.o (.int .i64))), (137, .c (.o .bool))], [], [], [], []⟩
def Z5.q21.u (n : Nat) (v : Z5.q21.s.V) (K : X -> St -> Prop) : Prop := Z5.q21 n v.1.1 v.1.2.1 v.1.2.2.1 (fun y0 => K .ret ⟨[(6, .c (.int .i64 y0))], [], [], [], []⟩) (K .normal ⟨[], [], [], [], []⟩)
abbrev Z5.q9.s : ST := ⟨[(0, .c (.o (.pdat 59 Y3 0))), (2, .c (.o (.dat 2 (.int .i64)))), (7, .c (.o (.int .i64))), (69, .c (.o .bool))], [], [], [], []⟩
def Z5.q9.u (n : Nat) (v : Z5.q9.s.V) (K : X -> St -> Prop) : Prop := Z5.q9 n v.1.1 v.1.2.1 v.1.2.2.1 v.1.2.2.2.1 (fun y0 => K .ret ⟨[(6, .c (.int .i64 y0))], [], [], [], []⟩) (K .normal ⟨[], [], [], [], []⟩)
abbrev Z5.q5.s : ST := ⟨[(0, .c (.o (.pdat 59 Y3 0))), (1, .c (.o (.dat 60 Y7))), (2, .c (.o (.dat 2 (.int .i64)))), (7, .c (.o (.int .i64))), (17, .c (.o .bool))], [], [], [], []⟩
def Z5.q5.u (n : Nat) (v : Z5.q5.s.V) (K : X -> St -> Prop) : Prop := Z5.q5 n v.1.1 v.1.2.1 v.1.2.2.1 v.1.2.2.2.1 v.1.2.2.2.2.1 (fun y0 => K .ret ⟨[(6, .c (.int .i64 y0))], [], [], [], []⟩) (K .normal ⟨[], [], [], [], []⟩)
theorem Z5.l11_ok : ∀ n v K, Z5.l11.u n v K -> loopM C X0 n 76 11 (Z5.l11.s.fill v) K :=
 loop_tell hX (fn := Try.f76) (c := bodyOf Try.f76) (a := loopOf Try.f76 11) (li := liOf (C.fi 76).loops 11) (by kernel_rfl) (by kernel_rfl) (of_decide_eq_true rfl) (by kernel_rfl) (by kernel_rfl) (T := Z5.l11.s) (u := Z5.l11.u) (fun _ _ h => h) (call := D37) (lp := fun n => noL) (D37_ok hX) (fun n => noL_ok) (fun n v K => by kernel_rfl)
theorem Z5.q21_ok : ∀ n v K, Z5.q21.u n v K -> loopM C X0 n 76 1000021 (Z5.q21.s.fill v) K :=
 cut_tell hX (fn := Try.f76) (c := bodyOf Try.f76) (a := cutOf Try.f76 21) (li := liOf (C.fi 76).loops 1000021) (by kernel_rfl) (by kernel_rfl) (of_decide_eq_true rfl) (by kernel_rfl) (by kernel_rfl) (T := Z5.q21.s) (u := Z5.q21.u) (fun _ _ h => h) (call := D37) (lp := fun n => noL) (D37_ok hX) (fun n => noL_ok) (fun n v K => by kernel_rfl)
theorem Z5.q9_ok : ∀ n v K, Z5.q9.u n v K -> loopM C X0 n 76 1000009 (Z5.q9.s.fill v) K :=
 cut_tell hX (fn := Try.f76) (c := bodyOf Try.f76) (a := cutOf Try.f76 9) (li := liOf (C.fi 76).loops 1000009) (by kernel_rfl) (by kernel_rfl) (of_decide_eq_true rfl) (by kernel_rfl) (by kernel_rfl) (T := Z5.q9.s) (u := Z5.q9.u) (fun _ _ h => h) (call := D37) (lp := fun n => orL 11 Z5.l11.s (Z5.l11.u n) (orL 1000021 Z5.q21.s (Z5.q21.u n) noL)) (D37_ok hX) (fun n => (orL_ok (Z5.l11_ok hX n) (orL_ok (Z5.q21_ok hX n) noL_ok))) (fun n v K => by kernel_rfl)
theorem Z5.q5_ok : ∀ n v K, Z5.q5.u n v K -> loopM C X0 n 76 1000005 (Z5.q5.s.fill v) K :=
 cut_tell hX (fn := Try.f76) (c := bodyOf Try.f76) (a := cutOf Try.f76 5) (li := liOf (C.fi 76).loops 1000005) (by kernel_rfl) (by kernel_rfl) (of_decide_eq_true rfl) (by kernel_rfl) (by kernel_rfl) (T := Z5.q5.s) (u := Z5.q5.u) (fun _ _ h => h) (call := D37) (lp := fun n => orL 1000009 Z5.q9.s (Z5.q9.u n) noL) (D37_ok hX) (fun n => (orL_ok (Z5.q9_ok hX n) noL_ok)) (fun n v K => by kernel_rfl)
theorem Z5_ok : ∀ n v K, Z5.u n v K -> callM C X0 n 76 (fillA Z5.a v) K :=
 call_tell hX (fn := Try.f76) (c := bodyOf Try.f76) (by kernel_rfl) (by kernel_rfl) (A := Z5.a) (u := Z5.u) (fun _ _ h => h) (call := D37) (lp := fun n => orL 1000005 Z5.q5.s (Z5.q5.u n) noL) (D37_ok hX) (fun n => (orL_ok (Z5.q5_ok hX n) noL_ok)) (fun n v K => by kernel_rfl)
def D38 (n : Nat) : CallF := orC 76 Z5.a (Z5.u n) (D37 n)
theorem D38_ok : ∀ n g a K, D38 n g a K -> callM C X0 n g a K := fun n => orC_ok (Z5_ok hX n) (D37_ok hX n)
end
end Go.Vsi
end

section
set_option linter.unusedVariables false
namespace Go.Vsi
open Go.Proofs
section
variable (hX : CallF.Mono X0)
include hX
abbrev Z4.a : List TS := [.c (.o (.pdat 59 Y3 0))]
def Z4.u (n : Nat) (v : VA Z4.a) (K : RES -> Prop) : Prop := Z4.c n v.1 (fun r0 => K ⟨.c (.bool r0), []⟩)
abbrev Z4.q3.s : ST := ⟨[(0, .c (.o (.pdat 59 Y3 0))), (52, .c (.o .bool))], [], [], [], []⟩
def Z4.q3.u (n : Nat) (v : Z4.q3.s.V) (K : X -> St -> Prop) : Prop := Z4.q3 n v.1.1 v.1.2.1 (fun y0 => K .ret ⟨[(2, .c (.bool y0))], [], [], [], []⟩) (fun y0 => K .normal ⟨[(0, .c (.pdat 59 Y3 y0 0))], [], [], [], []⟩)
abbrev Z4.q2.s : ST := ⟨[(0, .c (.o (.pdat 59 Y3 0))), (3, .c (.o .bool))], [], [], [], []⟩
def Z4.q2.u (n : Nat) (v : Z4.q2.s.V) (K : X -> St -> Prop) : Prop := Z4.q2 n v.1.1 v.1.2.1 (fun y0 => K .ret ⟨[(2, .c (.bool y0))], [], [], [], []⟩)
theorem Z4.q3_ok : ∀ n v K, Z4.q3.u n v K -> loopM C X0 n 77 1000003 (Z4.q3.s.fill v) K :=
 cut_tell hX (fn := Try.f77) (c := bodyOf Try.f77) (a := cutOf Try.f77 3) (li := liOf (C.fi 77).loops 1000003) (by kernel_rfl) (by kernel_rfl) (of_decide_eq_true rfl) (by kernel_rfl) (by kernel_rfl) (T := Z4.q3.s) (u := Z4.q3.u) (fun _ _ h => h) (call := D38) (lp := fun n => noL) (D38_ok hX) (fun n => noL_ok) (fun n v K => by kernel_rfl)
theorem Z4.q2_ok : ∀ n v K, Z4.q2.u n v K -> loopM C X0 n 77 1000002 (Z4.q2.s.fill v) K :=
 cut_tell hX (fn := Try.f77) (c := bodyOf Try.f77) (a := cutOf Try.f77 2) (li := liOf (C.fi 77).loops 1000002) (by kernel_rfl) (by kernel_rfl) (of_decide_eq_true rfl) (by kernel_rfl) (by kernel_rfl) (T := Z4.q2.s) (u := Z4.q2.u) (fun _ _ h => h) (call := D38) (lp := fun n => orL 1000003 Z4.q3.s (Z4.q3.u n) noL) (D38_ok hX) (fun n => (orL_ok (Z4.q3_ok hX n) noL_ok)) (fun n v K => by kernel_rfl)
theorem Z4_ok : ∀ n v K, Z4.u n v K -> callM C X0 n 77 (fillA Z4.a v) K :=
 call_tell hX (fn := Try.f77) (c := bodyOf Try.f77) (by kernel_rfl) (by kernel_rfl) (A := Z4.a) (u := Z4.u) (fun _ _ h => h) (call := D38) (lp := fun n => orL 1000002 Z4.q2.s (Z4.q2.u n) noL) (D38_ok hX) (fun n => (orL_ok (Z4.q2_ok hX n) noL_ok)) (fun n v K => by kernel_rfl)
def D39 (n : Nat) : CallF := orC 77 Z4.a (Z4.u n) (D38 n)
theorem D39_ok : ∀ n g a K, D39 n g a K -> callM C X0 n g a K := fun n => orC_ok (Z4_ok hX n) (D38_ok hX n)
abbrev Z50.a : List TS := [.c (.o (.dat 4 .bool)), .c (.o .bool)]
def Z50.u (n : Nat) (v : VA Z50.a) (K : RES -> Prop) : Prop := Z50.c n v.1 v.2.1 (fun r0 => K ⟨.c (.int .i64 r0), []⟩)
abbrev Z50.l2.s : ST := ⟨[(0, .c (.o (.dat 4 .bool))), (1, .c (.o .bool)), (7, .c (.o (.int .i64))), (8, .c (.o (.int .i64)))], [], [], [], []⟩
def Z50.l2.u (n : Nat) (v : Z50.l2.s.V) (K : X -> St -> Prop) : Prop := Z50.l2 n v.1.1 v.1.2.1 v.1.2.2.1 v.1.2.2.2.1 (K (.exit 0) ⟨[], [], [], [], []⟩) (fun y0 => K .ret ⟨[(4, .c (.int .i64 y0))], [], [], [], []⟩)
theorem Z50.l2_ok : ∀ n v K, Z50.l2.u n v K -> loopM C X0 n 93 2 (Z50.l2.s.fill v) K :=
 loop_tell hX (fn := Try.f93) (c := bodyOf Try.f93) (a := loopOf Try.f93 2) (li := liOf (C.fi 93).loops 2) (by kernel_rfl) (by kernel_rfl) (of_decide_eq_true rfl) (by kernel_rfl) (by kernel_rfl) (T := Z50.l2.s) (u := Z50.l2.u) (fun _ _ h => h) (call := D39) (lp := fun n => noL) (D39_ok hX) (fun n => noL_ok) (fun n v K => by kernel_rfl)
theorem Z50_ok : ∀ n v K, Z50.u n v K -> callM C X0 n 93 (fillA Z50.a v) K :=
 call_tell hX (fn := Try.f93) (c := bodyOf Try.f93) (by kernel_rfl) (by kernel_rfl) (A := Z50.a) (u := Z50.u) (fun _ _ h => h) (call := D39) (lp := fun n => orL 2 Z50.l2.s (Z50.l2.u n) noL) (D39_ok hX) (fun n => (orL_ok (Z50.l2_ok hX n) noL_ok)) (fun n v K => by kernel_rfl)
def D40 (n : Nat) : CallF := orC 93 Z50.a (Z50.u n) (D39 n)
theorem D40_ok : ∀ n g a K, D40 n g a K -> callM C X0 n g a K := fun n => orC_ok (Z50_ok hX n) (D39_ok hX n)
abbrev Z47.a : List TS := [.c (.o (.dat 4 .bool)), .c (.o .bool)]
def Z47.u (n : Nat) (v : VA Z47.a) (K : RES -> Prop) : Prop := Z47.c n v.1 v.2.1 (fun r0 => K ⟨.c (.bool r0), []⟩)
theorem Z47_ok : ∀ n v K, Z47.u n v K -> callM C X0 n 78 (fillA Z47.a v) K :=
 call_tell hX (fn := Try.f78) (c := bodyOf Try.f78) (by kernel_rfl) (by kernel_rfl) (A := Z47.a) (u := Z47.u) (fun _ _ h => h) (call := D40) (lp := fun n => noL) (D40_ok hX) (fun n => noL_ok) (fun n v K => by kernel_rfl)
def D41 (n : Nat) : CallF := orC 78 Z47.a (Z47.u n) (D40 n)
theorem D41_ok : ∀ n g a K, D41 n g a K -> callM C X0 n g a K := fun n => orC_ok (Z47_ok hX n) (D40_ok hX n)
abbrev Z13.a : List TS := [.c (.o (.dat 60 Y7)), .a [.o (.dat 59 Y3)]]
def Z13.u (n : Nat) (v : VA Z13.a) (K : RES -> Prop) : Prop := Z13.c n v.1 v.2.1.1 (fun r0 r1 => K ⟨.tup [.c (.row ⟨2, .int .i64, r0, 99, none⟩), .c (.bool r1)], []⟩)
abbrev Z13.l13.s : ST := ⟨[(0, .c (.o (.dat 60 Y7))), (3, .c (.o (.pbox 3 0))), (6, .c (.o (.int .i64))), (7, .c (.o (.own 768))), (8, .c (.o (.own 832))), (9, .c (.o (.int .i64))), (10, .c (.o (.pdat 59 Y3 0))), (11, .c (.o (.own 1536))), (29, .c (.o (.int .i64))), (30, .c (.o (.int .i64))), (52, .c (.o (.dat 2 (.int .i64)))), (53, .c (.o (.int .i64))), (54, .c (.o (.int .i64)))], [⟨768, 2, .int .i64, 99⟩, ⟨832, 4, .bool, 99⟩, ⟨1536, 2, .int .i64, 99⟩], [⟨3, 34, [.o (.dat 59 Y3)], false⟩], [], []⟩
def Z13.l13.u (n : Nat) (v : Z13.l13.s.V) (K : X -> St -> Prop) : Prop := Z13.l13 n v.1.1 v.1.2.2.1 v.1.2.2.2.2.2.1 v.1.2.2.2.2.2.2.1 v.1.2.2.2.2.2.2.2.2.1 v.1.2.2.2.2.2.2.2.2.2.1 v.1.2.2.2.2.2.2.2.2.2.2.1 v.1.2.2.2.2.2.2.2.2.2.2.2.1 v.2.1.1 v.2.2.1.1 v.1.2.2.2.2.2.2.2.2.2.2.2.2.1 v.2.1.2.1 v.2.1.2.2.1 (fun y0 y1 y2 y3 y4 y5 y6 y7 y8 y9 => K (.exit 2) ⟨[(0, .c (.dat 60 Y7 y0)), (3, .c (.pbox 3 0)), (6, .c (.int .i64 y1)), (7, .c (.own 768)), (8, .c (.own 832)), (9, .c (.int .i64 y2)), (10, .c (.pdat 59 Y3 y3 0)), (11, .c (.own 1536)), (29, .c (.int .i64 y4)), (30, .c (.int .i64 y5))], [(768, ⟨2, .int .i64, y6, 99, none⟩), (832, ⟨4, .bool, y7, 99, none⟩), (1536, ⟨2, .int .i64, y8, 99, none⟩)], [(3, ⟨34, [.dat 59 Y3 y9], false⟩)], [], []⟩) (fun y0 y1 => K .ret ⟨[(4, .c (.own 128)), (5, .c (.bool y0))], [(128, ⟨2, .int .i64, y1, 99, none⟩)], [], [], []⟩)
abbrev Z13.l6.s : ST := ⟨[(0, .c (.o (.dat 60 Y7))), (3, .c (.o (.pbox 3 0))), (6, .c (.o (.int .i64))), (7, .c (.o (.own 768))), (8, .c (.o (.own 832))), (29, .c (.o (.int .i64))), (30, .c (.o (.int .i64)))], [⟨768, 2, .int .i64, 99⟩, ⟨832, 4, .bool, 99⟩], [⟨3, 34, [.o (.dat 59 Y3)], false⟩], [], []⟩
def Z13.l6.u (n : Nat) (v : Z13.l6.s.V) (K : X -> St -> Prop) : Prop := Z13.l6 n v.1.1 v.1.2.2.1 v.1.2.2.2.2.2.1 v.1.2.2.2.2.2.2.1 v.2.1.1 v.2.1.2.1 v.2.2.1.1 (fun y0 y1 y2 => K (.exit 0) ⟨[(6, .c (.int .i64 y0)), (7, .c (.own 768)), (8, .c (.own 832))], [(768, ⟨2, .int .i64, y1, 99, none⟩), (832, ⟨4, .bool, y2, 99, none⟩)], [], [], []⟩) (fun y0 y1 => K .ret ⟨[(4, .c (.own 128)), (5, .c (.bool y0))], [(128, ⟨2, .int .i64, y1, 99, none⟩)], [], [], []⟩)
theorem Z13.l13_ok : ∀ n v K, Z13.l13.u n v K -> loopM C X0 n 64 13 (Z13.l13.s.fill v) K :=
 loop_tell hX (fn := Try.f64) (c := bodyOf Try.f64) (a := loopOf Try.f64 13) (li := liOf (C.fi 64).loops 13) (by kernel_rfl) (by kernel_rfl) (of_decide_eq_true rfl) (by kernel_rfl) (by kernel_rfl) (T := Z13.l13.s) (u := Z13.l13.u) (fun _ _ h => h) (call := D41) (lp := fun n => noL) (D41_ok hX) (fun n => noL_ok) (fun n v K => by kernel_rfl)
theorem Z13.l6_ok : ∀ n v K, Z13.l6.u n v K -> loopM C X0 n 64 6 (Z13.l6.s.fill v) K :=
 loop_tell hX (fn := Try.f64) (c := bodyOf Try.f64) (a := loopOf Try.f64 6) (li := liOf (C.fi 64).loops 6) (by kernel_rfl) (by kernel_rfl) (of_decide_eq_true rfl) (by kernel_rfl) (by kernel_rfl) (T := Z13.l6.s) (u := Z13.l6.u) (fun _ _ h => h) (call := D41) (lp := fun n => orL 13 Z13.l13.s (Z13.l13.u n) noL) (D41_ok hX) (fun n => (orL_ok (Z13.l13_ok hX n) noL_ok)) (fun n v K => by kernel_rfl)
theorem Z13_ok : ∀ n v K, Z13.u n v K -> callM C X0 n 64 (fillA Z13.a v) K :=
 call_tell hX (fn := Try.f64) (c := bodyOf Try.f64) (by kernel_rfl) (by kernel_rfl) (A := Z13.a) (u := Z13.u) (fun _ _ h => h) (call := D41) (lp := fun n => orL 6 Z13.l6.s (Z13.l6.u n) noL) (D41_ok hX) (fun n => (orL_ok (Z13.l6_ok hX n) noL_ok)) (fun n v K => by kernel_rfl)
def D42 (n : Nat) : CallF := orC 64 Z13.a (Z13.u n) (D41 n)
theorem D42_ok : ∀ n g a K, D42 n g a K -> callM C X0 n g a K := fun n => orC_ok (Z13_ok hX n) (D41_ok hX n)
abbrev Z12.a : List TS := [.c (.o (.dat 60 Y7)), .a [.o (.dat 59 Y3)]]
def Z12.u (n : Nat) (v : VA Z12.a) (K : RES -> Prop) : Prop := Z12.c n v.1 v.2.1.1 (fun r0 => K ⟨.c (.int .i64 r0), []⟩)
theorem Z12_ok : ∀ n v K, Z12.u n v K -> callM C X0 n 47 (fillA Z12.a v) K :=
 call_tell hX (fn := Try.f47) (c := bodyOf Try.f47) (by kernel_rfl) (by kernel_rfl) (A := Z12.a) (u := Z12.u) (fun _ _ h => h) (call := D42) (lp := fun n => noL) (D42_ok hX) (fun n => noL_ok) (fun n v K => by kernel_rfl)
def D43 (n : Nat) : CallF := orC 47 Z12.a (Z12.u n) (D42 n)
theorem D43_ok : ∀ n g a K, D43 n g a K -> callM C X0 n g a K := fun n => orC_ok (Z12_ok hX n) (D42_ok hX n)
abbrev Z51.a : List TS := [.c (.o (.row 2 (.int .i64) 99))]
def Z51.u (n : Nat) (v : VA Z51.a) (K : RES -> Prop) : Prop := Z51.c n v.1 (fun r0 => K ⟨.tup [], [[.row ⟨2, .int .i64, r0, 99, none⟩]]⟩)
omit hX in
theorem Z51_ok0 : ∀ n v K, Z51.u n v K -> callM C X0 n 48 (fillA Z51.a v) K :=
 sort_tell (C := C) (sid := 48) (by kernel_rfl) (A := Z51.a) (u := Z51.u) (fun v K h => h) (fun n v K => by kernel_rfl)
set_option linter.unusedSectionVars false in
theorem Z51_ok : ∀ n v K, Z51.u n v K -> callM C X0 n 48 (fillA Z51.a v) K := Z51_ok0
def D44 (n : Nat) : CallF := orC 48 Z51.a (Z51.u n) (D43 n)
theorem D44_ok : ∀ n g a K, D44 n g a K -> callM C X0 n g a K := fun n => orC_ok (Z51_ok hX n) (D43_ok hX n)
abbrev Z45.a : List TS := [.c (.o (.row 2 (.int .i64) 99))]
def Z45.u (n : Nat) (v : VA Z45.a) (K : RES -> Prop) : Prop := Z45.c n v.1 (fun r0 => K ⟨.c (.row ⟨2, .int .i64, r0, 99, none⟩), []⟩)
abbrev Z45.l9.s : ST := ⟨[(0, .c (.o (.own 0))), (3, .c (.o (.int .i64))), (4, .c (.o (.vw 0))), (5, .c (.o (.int .i64)))], [⟨0, 2, .int .i64, 99⟩], [], [], []⟩
def Z45.l9.u (n : Nat) (v : Z45.l9.s.V) (K : X -> St -> Prop) : Prop := Z45.l9 n v.1.2.2.1.1 v.1.2.2.1.2 v.1.2.1 v.1.2.2.2.1 v.2.1.1 (fun y0 y1 => K (.exit 2) ⟨[(0, .c (.own 0)), (3, .c (.int .i64 y0))], [(0, ⟨2, .int .i64, y1, 99, none⟩)], [], [], []⟩)
abbrev Z45.l4.s : ST := ⟨[(0, .c (.o (.own 0))), (3, .c (.o (.int .i64)))], [⟨0, 2, .int .i64, 99⟩], [], [], []⟩
def Z45.l4.u (n : Nat) (v : Z45.l4.s.V) (K : X -> St -> Prop) : Prop := Z45.l4 n v.2.1.1 v.1.2.1 (fun y0 => K (.exit 0) ⟨[(0, .c (.own 0))], [(0, ⟨2, .int .i64, y0, 99, none⟩)], [], [], []⟩) (fun y0 y1 y2 => K .ret ⟨[(2, .c (.vw 0 0 y1))], [(0, ⟨2, .int .i64, y2, 99, none⟩)], [], [], []⟩)
theorem Z45.l9_ok : ∀ n v K, Z45.l9.u n v K -> loopM C X0 n 49 9 (Z45.l9.s.fill v) K :=
 loop_tell hX (fn := Try.f49) (c := bodyOf Try.f49) (a := loopOf Try.f49 9) (li := liOf (C.fi 49).loops 9) (by kernel_rfl) (by kernel_rfl) (of_decide_eq_true rfl) (by kernel_rfl) (by kernel_rfl) (T := Z45.l9.s) (u := Z45.l9.u) (fun _ _ h => h) (call := D44) (lp := fun n => noL) (D44_ok hX) (fun n => noL_ok) (fun n v K => by kernel_rfl)
theorem Z45.l4_ok : ∀ n v K, Z45.l4.u n v K -> loopM C X0 n 49 4 (Z45.l4.s.fill v) K :=
 loop_tell hX (fn := Try.f49) (c := bodyOf Try.f49) (a := loopOf Try.f49 4) (li := liOf (C.fi 49).loops 4) (by kernel_rfl) (by kernel_rfl) (of_decide_eq_true rfl) (by kernel_rfl) (by kernel_rfl) (T := Z45.l4.s) (u := Z45.l4.u) (fun _ _ h => h) (call := D44) (lp := fun n => orL 9 Z45.l9.s (Z45.l9.u n) noL) (D44_ok hX) (fun n => (orL_ok (Z45.l9_ok hX n) noL_ok)) (fun n v K => by kernel_rfl)
theorem Z45_ok : ∀ n v K, Z45.u n v K -> callM C X0 n 49 (fillA Z45.a v) K :=
 call_tell hX (fn := Try.f49) (c := bodyOf Try.f49) (by kernel_rfl) (by kernel_rfl) (A := Z45.a) (u := Z45.u) (fun _ _ h => h) (call := D44) (lp := fun n => orL 4 Z45.l4.s (Z45.l4.u n) noL) (D44_ok hX) (fun n => (orL_ok (Z45.l4_ok hX n) noL_ok)) (fun n v K => by kernel_rfl)
def D45 (n : Nat) : CallF := orC 49 Z45.a (Z45.u n) (D44 n)
theorem D45_ok : ∀ n g a K, D45 n g a K -> callM C X0 n g a K := fun n => orC_ok (Z45_ok hX n) (D44_ok hX n)
abbrev Z11.a : List TS := [.a [.o (.dat 59 Y3)]]
def Z11.u (n : Nat) (v : VA Z11.a) (K : RES -> Prop) : Prop := Z11.c n v.1.1 (fun r0 => K ⟨.c (.row ⟨2, .int .i64, r0, 99, none⟩), []⟩)
abbrev Z11.l3.s : ST := ⟨[(3, .c (.o (.own 96))), (8, .c (.o (.dat 59 Y3))), (9, .c (.o (.int .i64))), (10, .c (.o (.int .i64)))], [⟨96, 2, .int .i64, 99⟩], [], [], []⟩
def Z11.l3.u (n : Nat) (v : Z11.l3.s.V) (K : X -> St -> Prop) : Prop := Z11.l3 n v.1.2.1 v.1.2.2.1 v.1.2.2.2.1 v.2.1.1 (fun y0 => K (.exit 0) ⟨[(3, .c (.own 96))], [(96, ⟨2, .int .i64, y0, 99, none⟩)], [], [], []⟩)
theorem Z11.l3_ok : ∀ n v K, Z11.l3.u n v K -> loopM C X0 n 29 3 (Z11.l3.s.fill v) K :=
 loop_tell hX (fn := Try.f29) (c := bodyOf Try.f29) (a := loopOf Try.f29 3) (li := liOf (C.fi 29).loops 3) (by kernel_rfl) (by kernel_rfl) (of_decide_eq_true rfl) (by kernel_rfl) (by kernel_rfl) (T := Z11.l3.s) (u := Z11.l3.u) (fun _ _ h => h) (call := D45) (lp := fun n => noL) (D45_ok hX) (fun n => noL_ok) (fun n v K => by kernel_rfl)
theorem Z11_ok : ∀ n v K, Z11.u n v K -> callM C X0 n 29 (fillA Z11.a v) K :=
 call_tell hX (fn := Try.f29) (c := bodyOf Try.f29) (by kernel_rfl) (by kernel_rfl) (A := Z11.a) (u := Z11.u) (fun _ _ h => h) (call := D45) (lp := fun n => orL 3 Z11.l3.s (Z11.l3.u n) noL) (D45_ok hX) (fun n => (orL_ok (Z11.l3_ok hX n) noL_ok)) (fun n v K => by kernel_rfl)
def D46 (n : Nat) : CallF := orC 29 Z11.a (Z11.u n) (D45 n)
theorem D46_ok : ∀ n g a K, D46 n g a K -> callM C X0 n g a K := fun n => orC_ok (Z11_ok hX n) (D45_ok hX n)
abbrev Z20.a : List TS := [.c (.o (.dat 2 (.int .i64))), .c (.o (.dat 2 (.int .i64)))]
def Z20.u (n : Nat) (v : VA Z20.a) (K : RES -> Prop) : Prop := Z20.c n v.1 v.2.1 (fun r0 => K ⟨.c (.bool r0), []⟩)
abbrev Z20.l4.s : ST := ⟨[(0, .c (.o (.dat 2 (.int .i64)))), (1, .c (.o (.dat 2 (.int .i64)))), (5, .c (.o (.int .i64)))], [], [], [], []⟩
def Z20.l4.u (n : Nat) (v : Z20.l4.s.V) (K : X -> St -> Prop) : Prop := Z20.l4 n v.1.1 v.1.2.1 v.1.2.2.1 (K (.exit 0) ⟨[], [], [], [], []⟩) (fun y0 => K .ret ⟨[(4, .c (.bool y0))], [], [], [], []⟩)
theorem Z20.l4_ok : ∀ n v K, Z20.l4.u n v K -> loopM C X0 n 11 4 (Z20.l4.s.fill v) K :=
 loop_tell hX (fn := Try.f11) (c := bodyOf Try.f11) (a := loopOf Try.f11 4) (li := liOf (C.fi 11).loops 4) (by kernel_rfl) (by kernel_rfl) (of_decide_eq_true rfl) (by kernel_rfl) (by kernel_rfl) (T := Z20.l4.s) (u := Z20.l4.u) (fun _ _ h => h) (call := D46) (lp := fun n => noL) (D46_ok hX) (fun n => noL_ok) (fun n v K => by kernel_rfl)
theorem Z20_ok : ∀ n v K, Z20.u n v K -> callM C X0 n 11 (fillA Z20.a v) K :=
 call_tell hX (fn := Try.f11) (c := bodyOf Try.f11) (by kernel_rfl) (by kernel_rfl) (A := Z20.a) (u := Z20.u) (fun _ _ h => h) (call := D46) (lp := fun n => orL 4 Z20.l4.s (Z20.l4.u n) noL) (D46_ok hX) (fun n => (orL_ok (Z20.l4_ok hX n) noL_ok)) (fun n v K => by kernel_rfl)
def D47 (n : Nat) : CallF := orC 11 Z20.a (Z20.u n) (D46 n)
theorem D47_ok : ∀ n g a K, D47 n g a K -> callM C X0 n g a K := fun n => orC_ok (Z20_ok hX n) (D46_ok hX n)
abbrev Z18.a : List TS := [.a [.o .str, .o (.int .i64)], .a [.o .str, .o (.int .i64)]]
def Z18.u (n : Nat) (v : VA Z18.a) (K : RES -> Prop) : Prop := Z18.c n v.1.1 v.1.2.1 v.2.1.1 v.2.1.2.1 (fun r0 => K ⟨.c (.bool r0), []⟩)
theorem Z18_ok : ∀ n v K, Z18.u n v K -> callM C X0 n 30 (fillA Z18.a v) K :=
 call_tell hX (fn := Try.f30) (c := bodyOf Try.f30) (by kernel_rfl) (by kernel_rfl) (A := Z18.a) (u := Z18.u) (fun _ _ h => h) (call := D47) (lp := fun n => noL) (D47_ok hX) (fun n => noL_ok) (fun n v K => by kernel_rfl)
def D48 (n : Nat) : CallF := orC 30 Z18.a (Z18.u n) (D47 n)
theorem D48_ok : ∀ n g a K, D48 n g a K -> callM C X0 n g a K := fun n => orC_ok (Z18_ok hX n) (D47_ok hX n)
abbrev Z19.a : List TS := [.c (.o (.dat 60 Y7)), .c (.o (.dat 60 Y7))]
def Z19.u (n : Nat) (v : VA Z19.a) (K : RES -> Prop) : Prop := Z19.c n v.1 v.2.1 (fun r0 => K ⟨.c (.bool r0), []⟩)
abbrev Z19.l4.s : ST := ⟨[(0, .c (.o (.dat 60 Y7))), (1, .c (.o (.dat 60 Y7))), (5, .c (.o (.int .i64)))], [], [], [], []⟩
def Z19.l4.u (n : Nat) (v : Z19.l4.s.V) (K : X -> St -> Prop) : Prop := Z19.l4 n v.1.1 v.1.2.1 v.1.2.2.1 (K (.exit 0) ⟨[], [], [], [], []⟩) (fun y0 => K .ret ⟨[(4, .c (.bool y0))], [], [], [], []⟩)
theorem Z19.l4_ok : ∀ n v K, Z19.l4.u n v K -> loopM C X0 n 12 4 (Z19.l4.s.fill v) K :=
 loop_tell hX (fn := Try.f12) (c := bodyOf Try.f12) (a := loopOf Try.f12 4) (li := liOf (C.fi 12).loops 4) (by kernel_rfl) (by kernel_rfl) (of_decide_eq_true rfl) (by kernel_rfl) (by kernel_rfl) (T := Z19.l4.s) (u := Z19.l4.u) (fun _ _ h => h) (call := D48) (lp := fun n => noL) (D48_ok hX) (fun n => noL_ok) (fun n v K => by kernel_rfl)
theorem Z19_ok : ∀ n v K, Z19.u n v K -> callM C X0 n 12 (fillA Z19.a v) K :=
 call_tell hX (fn := Try.f12) (c := bodyOf Try.f12) (by kernel_rfl) (by kernel_rfl) (A := Z19.a) (u := Z19.u) (fun _ _ h => h) (call := D48) (lp := fun n => orL 4 Z19.l4.s (Z19.l4.u n) noL) (D48_ok hX) (fun n => (orL_ok (Z19.l4_ok hX n) noL_ok)) (fun n v K => by kernel_rfl)
def D49 (n : Nat) : CallF := orC 12 Z19.a (Z19.u n) (D48 n)
theorem D49_ok : ∀ n g a K, D49 n g a K -> callM C X0 n g a K := fun n => orC_ok (Z19_ok hX n) (D48_ok hX n)
abbrev Z24.a : List TS := [.c (.o (.dat 105 (.int .u64))), .c (.o (.dat 105 (.int .u64)))]
def Z24.u (n : Nat) (v : VA Z24.a) (K : RES -> Prop) : Prop := Z24.c n v.1 v.2.1 (fun r0 => K ⟨.c (.bool r0), []⟩)
abbrev Z24.l4.s : ST := ⟨[(0, .c (.o (.dat 105 (.int .u64)))), (1, .c (.o (.dat 105 (.int .u64)))), (5, .c (.o (.int .i64)))], [], [], [], []⟩
def Z24.l4.u (n : Nat) (v : Z24.l4.s.V) (K : X -> St -> Prop) : Prop := Z24.l4 n v.1.1 v.1.2.1 v.1.2.2.1 (K (.exit 0) ⟨[], [], [], [], []⟩) (fun y0 => K .ret ⟨[(4, .c (.bool y0))], [], [], [], []⟩)
theorem Z24.l4_ok : ∀ n v K, Z24.l4.u n v K -> loopM C X0 n 90 4 (Z24.l4.s.fill v) K :=
 loop_tell hX (fn := Try.f90) (c := bodyOf Try.f90) (a := loopOf Try.f90 4) (li := liOf (C.fi 90).loops 4) (by kernel_rfl) (by kernel_rfl) (of_decide_eq_true rfl) (by kernel_rfl) (by kernel_rfl) (T := Z24.l4.s) (u := Z24.l4.u) (fun _ _ h => h) (call := D49) (lp := fun n => noL) (D49_ok hX) (fun n => noL_ok) (fun n v K => by kernel_rfl)
theorem Z24_ok : ∀ n v K, Z24.u n v K -> callM C X0 n 90 (fillA Z24.a v) K :=
 call_tell hX (fn := Try.f90) (c := bodyOf Try.f90) (by kernel_rfl) (by kernel_rfl) (A := Z24.a) (u := Z24.u) (fun _ _ h => h) (call := D49) (lp := fun n => orL 4 Z24.l4.s (Z24.l4.u n) noL) (D49_ok hX) (fun n => (orL_ok (Z24.l4_ok hX n) noL_ok)) (fun n v K => by kernel_rfl)
def D50 (n : Nat) : CallF := orC 90 Z24.a (Z24.u n) (D49 n)
theorem D50_ok : ∀ n g a K, D50 n g a K -> callM C X0 n g a K := fun n => orC_ok (Z24_ok hX n) (D49_ok hX n)
abbrev Z17.a : List TS := [.a [.o (.int .i64), .o (.dat 105 (.int .u64))], .a [.o (.int .i64), .o (.dat 105 (.int .u64))]]
def Z17.u (n : Nat) (v : VA Z17.a) (K : RES -> Prop) : Prop := Z17.c n v.1.1 v.1.2.1 v.2.1.1 v.2.1.2.1 (fun r0 => K ⟨.c (.bool r0), []⟩)
theorem Z17_ok : ∀ n v K, Z17.u n v K -> callM C X0 n 67 (fillA Z17.a v) K :=
 call_tell hX (fn := Try.f67) (c := bodyOf Try.f67) (by kernel_rfl) (by kernel_rfl) (A := Z17.a) (u := Z17.u) (fun _ _ h => h) (call := D50) (lp := fun n => noL) (D50_ok hX) (fun n => noL_ok) (fun n v K => by kernel_rfl)
def D51 (n : Nat) : CallF := orC 67 Z17.a (Z17.u n) (D50 n)
theorem D51_ok : ∀ n g a K, D51 n g a K -> callM C X0 n g a K := fun n => orC_ok (Z17_ok hX n) (D50_ok hX n)
abbrev Z21.a : List TS := [.a [.o (.int .i64), .o (.int .i64), .o (.int .i64), .o (.int .i64), .o (.int .i64), .o (.dat 105 (.int .u64)), .o (.dat 2 (.int .i64))], .a [.o (.int .i64), .o (.int .i64), .o (.int .i64), .o (.int .i64), .o (.int .i64), .o (.dat 105 (.int .u64)), .o (.dat 2 (.int .i64))]]
def Z21.u (n : Nat) (v : VA Z21.a) (K : RES -> Prop) : Prop := Z21.c n v.1.1 v.1.2.1 v.1.2.2.1 v.1.2.2.2.1 v.1.2.2.2.2.1 v.1.2.2.2.2.2.1 v.1.2.2.2.2.2.2.1 v.2.1.1 v.2.1.2.1 v.2.1.2.2.1 v.2.1.2.2.2.1 v.2.1.2.2.2.2.1 v.2.1.2.2.2.2.2.1 v.2.1.2.2.2.2.2.2.1 (fun r0 => K ⟨.c (.bool r0), []⟩)
theorem Z21_ok : ∀ n v K, Z21.u n v K -> callM C X0 n 50 (fillA Z21.a v) K :=
 call_tell hX (fn := Try.f50) (c := bodyOf Try.f50) (by kernel_rfl) (by kernel_rfl) (A := Z21.a) (u := Z21.u) (fun _ _ h => h) (call := D51) (lp := fun n => noL) (D51_ok hX) (fun n => noL_ok) (fun n v K => by kernel_rfl)
def D52 (n : Nat) : CallF := orC 50 Z21.a (Z21.u n) (D51 n)
theorem D52_ok : ∀ n g a K, D52 n g a K -> callM C X0 n g a K := fun n => orC_ok (Z21_ok hX n) (D51_ok hX n)
abbrev Z22.a : List TS := [.c (.o (.dat 59 Y3)), .c (.o (.dat 59 Y3))]
def Z22.u (n : Nat) (v : VA Z22.a) (K : RES -> Prop) : Prop := Z22.c n v.1 v.2.1 (fun r0 => K ⟨.c (.bool r0), []⟩)
abbrev Z22.l4.s : ST := ⟨[(0, .c (.o (.dat 59 Y3))), (1, .c (.o (.dat 59 Y3))), (5, .c (.o (.int .i64)))], [], [], [], []⟩
def Z22.l4.u (n : Nat) (v : Z22.l4.s.V) (K : X -> St -> Prop) : Prop := Z22.l4 n v.1.1 v.1.2.1 v.1.2.2.1 (K (.exit 0) ⟨[], [], [], [], []⟩) (fun y0 => K .ret ⟨[(4, .c (.bool y0))], [], [], [], []⟩)
theorem Z22.l4_ok : ∀ n v K, Z22.l4.u n v K -> loopM C X0 n 31 4 (Z22.l4.s.fill v) K :=
 loop_tell hX (fn := Try.f31) (c := bodyOf Try.f31) (a := loopOf Try.f31 4) (li := liOf (C.fi 31).loops 4) (by kernel_rfl) (by kernel_rfl) (of_decide_eq_true rfl) (by kernel_rfl) (by kernel_rfl) (T := Z22.l4.s) (u := Z22.l4.u) (fun _ _ h => h) (call := D52) (lp := fun n => noL) (D52_ok hX) (fun n => noL_ok) (fun n v K => by kernel_rfl)
theorem Z22_ok : ∀ n v K, Z22.u n v K -> callM C X0 n 31 (fillA Z22.a v) K :=
 call_tell hX (fn := Try.f31) (c := bodyOf Try.f31) (by kernel_rfl) (by kernel_rfl) (A := Z22.a) (u := Z22.u) (fun _ _ h => h) (call := D52) (lp := fun n => orL 4 Z22.l4.s (Z22.l4.u n) noL) (D52_ok hX) (fun n => (orL_ok (Z22.l4_ok hX n) noL_ok)) (fun n v K => by kernel_rfl)
def D53 (n : Nat) : CallF := orC 31 Z22.a (Z22.u n) (D52 n)
theorem D53_ok : ∀ n g a K, D53 n g a K -> callM C X0 n g a K := fun n => orC_ok (Z22_ok hX n) (D52_ok hX n)
abbrev Z23.a : List TS := [.a [.o (.dat 59 Y3)], .a [.o (.dat 59 Y3)]]
def Z23.u (n : Nat) (v : VA Z23.a) (K : RES -> Prop) : Prop := Z23.c n v.1.1 v.2.1.1 (fun r0 => K ⟨.c (.bool r0), []⟩)
theorem Z23_ok : ∀ n v K, Z23.u n v K -> callM C X0 n 13 (fillA Z23.a v) K :=
 call_tell hX (fn := Try.f13) (c := bodyOf Try.f13) (by kernel_rfl) (by kernel_rfl) (A := Z23.a) (u := Z23.u) (fun _ _ h => h) (call := D53) (lp := fun n => noL) (D53_ok hX) (fun n => noL_ok) (fun n v K => by kernel_rfl)
def D54 (n : Nat) : CallF := orC 13 Z23.a (Z23.u n) (D53 n)
theorem D54_ok : ∀ n g a K, D54 n g a K -> callM C X0 n g a K := fun n => orC_ok (Z23_ok hX n) (D53_ok hX n)
abbrev Z25.a : List TS := [.a [.o (.int .i64), .o (.dat 84 Y3)], .c (.o (.int .i64))]
def Z25.u (n : Nat) (v : VA Z25.a) (K : RES -> Prop) : Prop := Z25.c n v.1.1 v.1.2.1 v.2.1 (fun r0 => K ⟨.c (.int .i64 r0), []⟩)
theorem Z25_ok : ∀ n v K, Z25.u n v K -> callM C X0 n 34 (fillA Z25.a v) K :=
 call_tell hX (fn := Try.f34) (c := bodyOf Try.f34) (by kernel_rfl) (by kernel_rfl) (A := Z25.a) (u := Z25.u) (fun _ _ h => h) (call := D54) (lp := fun n => noL) (D54_ok hX) (fun n => noL_ok) (fun n v K => by kernel_rfl)
def D55 (n : Nat) : CallF := orC 34 Z25.a (Z25.u n) (D54 n)
theorem D55_ok : ∀ n g a K, D55 n g a K -> callM C X0 n g a K := fun n => orC_ok (Z25_ok hX n) (D54_ok hX n)
abbrev Z26.a : List TS := [.c (.o (.dat 70 Y1)), .c (.o (.int .i64))]
def Z26.u (n : Nat) (v : VA Z26.a) (K : RES -> Prop) : Prop := Z26.c n v.1 v.2.1 (fun r0 => K ⟨.c (.int .i64 r0), []⟩)
abbrev Z26.l5.s : ST := ⟨[(0, .c (.o (.dat 70 Y1))), (1, .c (.o (.int .i64))), (5, .c (.o (.int .i64)))], [], [], [], []⟩
def Z26.l5.u (n : Nat) (v : Z26.l5.s.V) (K : X -> St -> Prop) : Prop := Z26.l5 n v.1.1 v.1.2.1 v.1.2.2.1 (fun y0 => K (.exit 0) ⟨[(1, .c (.int .i64 y0))], [], [], [], []⟩) (fun y0 => K .ret ⟨[(4, .c (.int .i64 y0))], [], [], [], []⟩)
theorem Z26.l5_ok : ∀ n v K, Z26.l5.u n v K -> loopM C X0 n 18 5 (Z26.l5.s.fill v) K :=
 loop_tell hX (fn := Try.f18) (c := bodyOf Try.f18) (a := loopOf Try.f18 5) (li := liOf (C.fi 18).loops 5) (by kernel_rfl) (by kernel_rfl) (of_decide_eq_true rfl) (by kernel_rfl) (by kernel_rfl) (T := Z26.l5.s) (u := Z26.l5.u) (fun _ _ h => h) (call := D55) (lp := fun n => noL) (D55_ok hX) (fun n => noL_ok) (fun n v K => by kernel_rfl)
theorem Z26_ok : ∀ n v K, Z26.u n v K -> callM C X0 n 18 (fillA Z26.a v) K :=
 call_tell hX (fn := Try.f18) (c := bodyOf Try.f18) (by kernel_rfl) (by kernel_rfl) (A := Z26.a) (u := Z26.u) (fun _ _ h => h) (call := D55) (lp := fun n => orL 5 Z26.l5.s (Z26.l5.u n) noL) (D55_ok hX) (fun n => (orL_ok (Z26.l5_ok hX n) noL_ok)) (fun n v K => by kernel_rfl)
def D56 (n : Nat) : CallF := orC 18 Z26.a (Z26.u n) (D55 n)
theorem D56_ok : ∀ n g a K, D56 n g a K -> callM C X0 n g a K := fun n => orC_ok (Z26_ok hX n) (D55_ok hX n)
abbrev Z35.a : List TS := [.a [.o (.int .i64), .o (.dat 84 Y3)]]
def Z35.u (n : Nat) (v : VA Z35.a) (K : RES -> Prop) : Prop := Z35.c n v.1.1 v.1.2.1 (fun r0 r1 => K ⟨.agg [.int .i64 r0, .row ⟨59, .prod (.int .i64) Y4, r1, 99, none⟩], []⟩)
theorem Z35_ok : ∀ n v K, Z35.u n v K -> callM C X0 n 38 (fillA Z35.a v) K :=
 call_tell hX (fn := Try.f38) (c := bodyOf Try.f38) (by kernel_rfl) (by kernel_rfl) (A := Z35.a) (u := Z35.u) (fun _ _ h => h) (call := D56) (lp := fun n => noL) (D56_ok hX) (fun n => noL_ok) (fun n v K => by kernel_rfl)
def D57 (n : Nat) : CallF := orC 38 Z35.a (Z35.u n) (D56 n)
theorem D57_ok : ∀ n g a K, D57 n g a K -> callM C X0 n g a K := fun n => orC_ok (Z35_ok hX n) (D56_ok hX n)
abbrev Z36.a : List TS := [.c (.o (.dat 70 Y1))]
def Z36.u (n : Nat) (v : VA Z36.a) (K : RES -> Prop) : Prop := Z36.c n v.1 (fun r0 => K ⟨.c (.row ⟨72, .prod (.int .i64) (.sl 59 Y3), r0, 99, none⟩), []⟩)
abbrev Z36.l3.s : ST := ⟨[(0, .c (.o (.dat 70 Y1))), (3, .c (.o (.own 224))), (4, .c (.o (.int .i64)))], [⟨224, 72, .prod (.int .i64) (.sl 59 Y3), 99⟩], [], [], []⟩
def Z36.l3.u (n : Nat) (v : Z36.l3.s.V) (K : X -> St -> Prop) : Prop := Z36.l3 n v.1.1 v.1.2.2.1 v.2.1.1 (fun y0 => K (.exit 0) ⟨[(3, .c (.own 224))], [(224, ⟨72, .prod (.int .i64) (.sl 59 Y3), y0, 99, none⟩)], [], [], []⟩)
theorem Z36.l3_ok : ∀ n v K, Z36.l3.u n v K -> loopM C X0 n 20 3 (Z36.l3.s.fill v) K :=
 loop_tell hX (fn := Try.f20) (c := bodyOf Try.f20) (a := loopOf Try.f20 3) (li := liOf (C.fi 20).loops 3) (by kernel_rfl) (by kernel_rfl) (of_decide_eq_true rfl) (by kernel_rfl) (by kernel_rfl) (T := Z36.l3.s) (u := Z36.l3.u) (fun _ _ h => h) (call := D57) (lp := fun n => noL) (D57_ok hX) (fun n => noL_ok) (fun n v K => by kernel_rfl)
theorem Z36_ok : ∀ n v K, Z36.u n v K -> callM C X0 n 20 (fillA Z36.a v) K :=
 call_tell hX (fn := Try.f20) (c := bodyOf Try.f20) (by kernel_rfl) (by kernel_rfl) (A := Z36.a) (u := Z36.u) (fun _ _ h => h) (call := D57) (lp := fun n => orL 3 Z36.l3.s (Z36.l3.u n) noL) (D57_ok hX) (fun n => (orL_ok (Z36.l3_ok hX n) noL_ok)) (fun n v K => by kernel_rfl)
def D58 (n : Nat) : CallF := orC 20 Z36.a (Z36.u n) (D57 n)
theorem D58_ok : ∀ n g a K, D58 n g a K -> callM C X0 n g a K := fun n => orC_ok (Z36_ok hX n) (D57_ok hX n)
abbrev Z57.a : List TS := [.c (.o (.dat 60 Y7)), .a [.o (.int .i64), .o (.dat 59 Y3)]]
def Z57.u (n : Nat) (v : VA Z57.a) (K : RES -> Prop) : Prop := Z57.c n v.1 v.2.1.1 v.2.1.2.1 (fun r0 => K ⟨.c (.bool r0), []⟩)
theorem Z57_ok : ∀ n v K, Z57.u n v K -> callM C X0 n 35 (fillA Z57.a v) K :=
 call_tell hX (fn := Try.f35) (c := bodyOf Try.f35) (by kernel_rfl) (by kernel_rfl) (A := Z57.a) (u := Z57.u) (fun _ _ h => h) (call := D58) (lp := fun n => noL) (D58_ok hX) (fun n => noL_ok) (fun n v K => by kernel_rfl)
def D59 (n : Nat) : CallF := orC 35 Z57.a (Z57.u n) (D58 n)
theorem D59_ok : ∀ n g a K, D59 n g a K -> callM C X0 n g a K := fun n => orC_ok (Z57_ok hX n) (D58_ok hX n)
abbrev Z60.a : List TS := [.c (.o (.dat 2 (.int .i64))), .c (.o (.int .i64))]
def Z60.u (n : Nat) (v : VA Z60.a) (K : RES -> Prop) : Prop := Z60.c n v.1 v.2.1 (fun r0 => K ⟨.c (.bool r0), []⟩)
abbrev Z60.l2.s : ST := ⟨[(0, .c (.o (.dat 2 (.int .i64)))), (1, .c (.o (.int .i64))), (5, .c (.o (.int .i64)))], [], [], [], []⟩
def Z60.l2.u (n : Nat) (v : Z60.l2.s.V) (K : X -> St -> Prop) : Prop := Z60.l2 n v.1.1 v.1.2.1 v.1.2.2.1 (K (.exit 0) ⟨[], [], [], [], []⟩) (fun y0 => K .ret ⟨[(4, .c (.bool y0))], [], [], [], []⟩)
theorem Z60.l2_ok : ∀ n v K, Z60.l2.u n v K -> loopM C X0 n 36 2 (Z60.l2.s.fill v) K :=
 loop_tell hX (fn := Try.f36) (c := bodyOf Try.f36) (a := loopOf Try.f36 2) (li := liOf (C.fi 36).loops 2) (by kernel_rfl) (by kernel_rfl) (of_decide_eq_true rfl) (by kernel_rfl) (by kernel_rfl) (T := Z60.l2.s) (u := Z60.l2.u) (fun _ _ h => h) (call := D59) (lp := fun n => noL) (D59_ok hX) (fun n => noL_ok) (fun n v K => by kernel_rfl)
theorem Z60_ok : ∀ n v K, Z60.u n v K -> callM C X0 n 36 (fillA Z60.a v) K :=
 call_tell hX (fn := Try.f36) (c := bodyOf Try.f36) (by kernel_rfl) (by kernel_rfl) (A := Z60.a) (u := Z60.u) (fun _ _ h => h) (call := D59) (lp := fun n => orL 2 Z60.l2.s (Z60.l2.u n) noL) (D59_ok hX) (fun n => (orL_ok (Z60.l2_ok hX n) noL_ok)) (fun n v K => by kernel_rfl)
def D60 (n : Nat) : CallF := orC 36 Z60.a (Z60.u n) (D59 n)
theorem D60_ok : ∀ n g a K, D60 n g a K -> callM C X0 n g a K := fun n => orC_ok (Z60_ok hX n) (D59_ok hX n)
abbrev Z54.a : List TS := [.c (.o (.dat 60 Y7)), .c (.o (.dat 72 Y2))]
def Z54.u (n : Nat) (v : VA Z54.a) (K : RES -> Prop) : Prop := Z54.c n v.1 v.2.1 (fun r0 => K ⟨.c (.bool r0), []⟩)
abbrev Z54.l11.s : ST := ⟨[(0, .c (.o (.dat 60 Y7))), (1, .c (.o (.dat 72 Y2))), (5, .c (.o (.own 1120))), (6, .c (.o (.int .i64))), (8, .c (.o (.own 1248))), (9, .c (.o (.int .i64)))], [⟨1120, 2, .int .i64, 99⟩, ⟨1248, 2, .int .i64, 99⟩], [], [], []⟩
def Z54.l11.u (n : Nat) (v : Z54.l11.s.V) (K : X -> St -> Prop) : Prop := Z54.l11 n v.1.1 v.1.2.1 v.1.2.2.2.1 v.2.1.1 v.2.1.2.1 v.1.2.2.2.2.2.1 (fun y0 y1 y2 y3 => K (.exit 2) ⟨[(0, .c (.dat 60 Y7 y0)), (1, .c (.dat 72 Y2 y1)), (5, .c (.own 1120)), (6, .c (.int .i64 y2))], [(1120, ⟨2, .int .i64, y3, 99, none⟩)], [], [], []⟩) (fun y0 => K .ret ⟨[(4, .c (.bool y0))], [], [], [], []⟩)
abbrev Z54.l3.s : ST := ⟨[(0, .c (.o (.dat 60 Y7))), (1, .c (.o (.dat 72 Y2))), (5, .c (.o (.own 160))), (6, .c (.o (.int .i64)))], [⟨160, 2, .int .i64, 99⟩], [], [], []⟩
def Z54.l3.u (n : Nat) (v : Z54.l3.s.V) (K : X -> St -> Prop) : Prop := Z54.l3 n v.1.1 v.1.2.1 v.1.2.2.2.1 v.2.1.1 (fun y0 => K (.exit 0) ⟨[(0, .c (.dat 60 Y7 y0))], [], [], [], []⟩) (fun y0 => K .ret ⟨[(4, .c (.bool y0))], [], [], [], []⟩)
theorem Z54.l11_ok : ∀ n v K, Z54.l11.u n v K -> loopM C X0 n 19 11 (Z54.l11.s.fill v) K :=
 loop_tell hX (fn := Try.f19) (c := bodyOf Try.f19) (a := loopOf Try.f19 11) (li := liOf (C.fi 19).loops 11) (by kernel_rfl) (by kernel_rfl) (of_decide_eq_true rfl) (by kernel_rfl) (by kernel_rfl) (T := Z54.l11.s) (u := Z54.l11.u) (fun _ _ h => h) (call := D60) (lp := fun n => noL) (D60_ok hX) (fun n => noL_ok) (fun n v K => by kernel_rfl)
theorem Z54.l3_ok : ∀ n v K, Z54.l3.u n v K -> loopM C X0 n 19 3 (Z54.l3.s.fill v) K :=
 loop_tell hX (fn := Try.f19) (c := bodyOf Try.f19) (a := loopOf Try.f19 3) (li := liOf (C.fi 19).loops 3) (by kernel_rfl) (by kernel_rfl) (of_decide_eq_true rfl) (by kernel_rfl) (by kernel_rfl) (T := Z54.l3.s) (u := Z54.l3.u) (fun _ _ h => h) (call := D60) (lp := fun n => orL 11 Z54.l11.s (Z54.l11.u n) noL) (D60_ok hX) (fun n => (orL_ok (Z54.l11_ok hX n) noL_ok)) (fun n v K => by kernel_rfl)
theorem Z54_ok : ∀ n v K, Z54.u n v K -> callM C X0 n 19 (fillA Z54.a v) K :=
 call_tell hX (fn := Try.f19) (c := bodyOf Try.f19) (by kernel_rfl) (by kernel_rfl) (A := Z54.a) (u := Z54.u) (fun _ _ h => h) (call := D60) (lp := fun n => orL 3 Z54.l3.s (Z54.l3.u n) noL) (D60_ok hX) (fun n => (orL_ok (Z54.l3_ok hX n) noL_ok)) (fun n v K => by kernel_rfl)
def D61 (n : Nat) : CallF := orC 19 Z54.a (Z54.u n) (D60 n)
theorem D61_ok : ∀ n g a K, D61 n g a K -> callM C X0 n g a K := fun n => orC_ok (Z54_ok hX n) (D60_ok hX n)
abbrev Z6.a : List TS := [.c (.o (.dat 60 Y7)), .a [.o (.int .i64), .o (.dat 59 Y3)]]
def Z6.u (n : Nat) (v : VA Z6.a) (K : RES -> Prop) : Prop := Z6.c n v.1 v.2.1.1 v.2.1.2.1 (fun r0 => K ⟨.c (.bool r0), []⟩)
theorem Z6_ok : ∀ n v K, Z6.u n v K -> callM C X0 n 40 (fillA Z6.a v) K :=
 call_tell hX (fn := Try.f40) (c := bodyOf Try.f40) (by kernel_rfl) (by kernel_rfl) (A := Z6.a) (u := Z6.u) (fun _ _ h => h) (call := D61) (lp := fun n => noL) (D61_ok hX) (fun n => noL_ok) (fun n v K => by kernel_rfl)
def D62 (n : Nat) : CallF := orC 40 Z6.a (Z6.u n) (D61 n)
theorem D62_ok : ∀ n g a K, D62 n g a K -> callM C X0 n g a K := fun n => orC_ok (Z6_ok hX n) (D61_ok hX n)
abbrev Z3.a : List TS := [.c (.o (.int .i64)), .c (.o (.pdat 77 (.sl 4 .bool) 0))]
def Z3.u (n : Nat) (v : VA Z3.a) (K : RES -> Prop) : Prop := Z3.c n v.1 v.2.1 (fun r0 => K ⟨.c (.bool r0), []⟩)
theorem Z3_ok : ∀ n v K, Z3.u n v K -> callM C X0 n 42 (fillA Z3.a v) K :=
 call_tell hX (fn := Try.f42) (c := bodyOf Try.f42) (by kernel_rfl) (by kernel_rfl) (A := Z3.a) (u := Z3.u) (fun _ _ h => h) (call := D62) (lp := fun n => noL) (D62_ok hX) (fun n => noL_ok) (fun n v K => by kernel_rfl)
def D63 (n : Nat) : CallF := orC 42 Z3.a (Z3.u n) (D62 n)
theorem D63_ok : ∀ n g a K, D63 n g a K -> callM C X0 n g a K := fun n => orC_ok (Z3_ok hX n) (D62_ok hX n)
abbrev Z49.a : List TS := [.c (.o (.dat 2 (.int .i64))), .c (.fn 42 [(false, 1)] 0 [.pdat 77 (.sl 4 .bool) 0])]
def Z49.u (n : Nat) (v : VA Z49.a) (K : RES -> Prop) : Prop := Z49.c n v.1 v.2.1.1 (fun r0 => K ⟨.c (.int .i64 r0), []⟩)
abbrev Z49.l2.s : ST := ⟨[(0, .c (.o (.dat 2 (.int .i64)))), (1, .c (.fn 42 [(false, 1)] 0 [.pdat 77 (.sl 4 .bool) 0])), (7, .c (.o (.int .i64))), (8, .c (.o (.int .i64)))], [], [], [], []⟩
def Z49.l2.u (n : Nat) (v : Z49.l2.s.V) (K : X -> St -> Prop) : Prop := Z49.l2 n v.1.1 v.1.2.1.1 v.1.2.2.1 v.1.2.2.2.1 (K (.exit 0) ⟨[], [], [], [], []⟩) (fun y0 => K .ret ⟨[(4, .c (.int .i64 y0))], [], [], [], []⟩)
theorem Z49.l2_ok : ∀ n v K, Z49.l2.u n v K -> loopM C X0 n 57 2 (Z49.l2.s.fill v) K :=
 loop_tell hX (fn := Try.f57) (c := bodyOf Try.f57) (a := loopOf Try.f57 2) (li := liOf (C.fi 57).loops 2) (by kernel_rfl) (by kernel_rfl) (of_decide_eq_true rfl) (by kernel_rfl) (by kernel_rfl) (T := Z49.l2.s) (u := Z49.l2.u) (fun _ _ h => h) (call := D63) (lp := fun n => noL) (D63_ok hX) (fun n => noL_ok) (fun n v K => by kernel_rfl)
theorem Z49_ok : ∀ n v K, Z49.u n v K -> callM C X0 n 57 (fillA Z49.a v) K :=
 call_tell hX (fn := Try.f57) (c := bodyOf Try.f57) (by kernel_rfl) (by kernel_rfl) (A := Z49.a) (u := Z49.u) (fun _ _ h => h) (call := D63) (lp := fun n => orL 2 Z49.l2.s (Z49.l2.u n) noL) (D63_ok hX) (fun n => (orL_ok (Z49.l2_ok hX n) noL_ok)) (fun n v K => by kernel_rfl)
def D64 (n : Nat) : CallF := orC 57 Z49.a (Z49.u n) (D63 n)
theorem D64_ok : ∀ n g a K, D64 n g a K -> callM C X0 n g a K := fun n => orC_ok (Z49_ok hX n) (D63_ok hX n)
abbrev Z46.a : List TS := [.c (.o (.dat 2 (.int .i64))), .c (.fn 42 [(false, 1)] 0 [.pdat 77 (.sl 4 .bool) 0])]
def Z46.u (n : Nat) (v : VA Z46.a) (K : RES -> Prop) : Prop := Z46.c n v.1 v.2.1.1 (fun r0 => K ⟨.c (.bool r0), []⟩)
theorem Z46_ok : ∀ n v K, Z46.u n v K -> callM C X0 n 41 (fillA Z46.a v) K :=
 call_tell hX (fn := Try.f41) (c := bodyOf Try.f41) (by kernel_rfl) (by kernel_rfl) (A := Z46.a) (u := Z46.u) (fun _ _ h => h) (call := D64) (lp := fun n => noL) (D64_ok hX) (fun n => noL_ok) (fun n v K => by kernel_rfl)
def D65 (n : Nat) : CallF := orC 41 Z46.a (Z46.u n) (D64 n)
theorem D65_ok : ∀ n g a K, D65 n g a K -> callM C X0 n g a K := fun n => orC_ok (Z46_ok hX n) (D64_ok hX n)
abbrev Z2.a : List TS := [.c (.o (.dat 60 Y7)), .c (.o (.dat 72 Y2))]
def Z2.u (n : Nat) (v : VA Z2.a) (K : RES -> Prop) : Prop := Z2.c n v.1 v.2.1 (fun r0 => K ⟨.c (.bool r0), []⟩)
abbrev Z2.l5.s : ST := ⟨[(0, .c (.o (.dat 60 Y7))), (5, .c (.o (.pbox 5 0))), (21, .c (.o (.dat 72 Y2))), (22, .c (.o (.int .i64))), (23, .c (.o (.int .i64)))], [⟨640, 4, .bool, 99⟩], [⟨5, 77, [.o (.own 640)], false⟩], [], []⟩
def Z2.l5.u (n : Nat) (v : Z2.l5.s.V) (K : X -> St -> Prop) : Prop := Z2.l5 n v.1.1 v.1.2.2.1 v.1.2.2.2.1 v.1.2.2.2.2.1 v.2.1.1 (K (.exit 0) ⟨[], [], [], [], []⟩) (fun y0 => K .ret ⟨[(4, .c (.bool y0))], [], [], [], []⟩)
theorem Z2.l5_ok : ∀ n v K, Z2.l5.u n v K -> loopM C X0 n 21 5 (Z2.l5.s.fill v) K :=
 loop_tell hX (fn := Try.f21) (c := bodyOf Try.f21) (a := loopOf Try.f21 5) (li := liOf (C.fi 21).loops 5) (by kernel_rfl) (by kernel_rfl) (of_decide_eq_true rfl) (by kernel_rfl) (by kernel_rfl) (T := Z2.l5.s) (u := Z2.l5.u) (fun _ _ h => h) (call := D65) (lp := fun n => noL) (D65_ok hX) (fun n => noL_ok) (fun n v K => by kernel_rfl)
theorem Z2_ok : ∀ n v K, Z2.u n v K -> callM C X0 n 21 (fillA Z2.a v) K :=
 call_tell hX (fn := Try.f21) (c := bodyOf Try.f21) (by kernel_rfl) (by kernel_rfl) (A := Z2.a) (u := Z2.u) (fun _ _ h => h) (call := D65) (lp := fun n => orL 5 Z2.l5.s (Z2.l5.u n) noL) (D65_ok hX) (fun n => (orL_ok (Z2.l5_ok hX n) noL_ok)) (fun n v K => by kernel_rfl)
def D66 (n : Nat) : CallF := orC 21 Z2.a (Z2.u n) (D65 n)
theorem D66_ok : ∀ n g a K, D66 n g a K -> callM C X0 n g a K := fun n => orC_ok (Z2_ok hX n) (D65_ok hX n)
abbrev Z15.a : List TS := [.a [.o (.int .i64), .o (.dat 59 Y3)], .a [.o (.int .i64), .o (.dat 59 Y3)]]
def Z15.u (n : Nat) (v : VA Z15.a) (K : RES -> Prop) : Prop := Z15.c n v.1.1 v.1.2.1 v.2.1.1 v.2.1.2.1 (fun r0 => K ⟨.c (.bool r0), []⟩)
theorem Z15_ok : ∀ n v K, Z15.u n v K -> callM C X0 n 43 (fillA Z15.a v) K :=
 call_tell hX (fn := Try.f43) (c := bodyOf Try.f43) (by kernel_rfl) (by kernel_rfl) (A := Z15.a) (u := Z15.u) (fun _ _ h => h) (call := D66) (lp := fun n => noL) (D66_ok hX) (fun n => noL_ok) (fun n v K => by kernel_rfl)
def D67 (n : Nat) : CallF := orC 43 Z15.a (Z15.u n) (D66 n)
theorem D67_ok : ∀ n g a K, D67 n g a K -> callM C X0 n g a K := fun n => orC_ok (Z15_ok hX n) (D66_ok hX n)
abbrev Z16.a : List TS := [.c (.o (.dat 72 Y2)), .c (.o (.dat 72 Y2))]
def Z16.u (n : Nat) (v : VA Z16.a) (K : RES -> Prop) : Prop := Z16.c n v.1 v.2.1 (fun r0 => K ⟨.c (.bool r0), []⟩)
abbrev Z16.l4.s : ST := ⟨[(0, .c (.o (.dat 72 Y2))), (1, .c (.o (.dat 72 Y2))), (5, .c (.o (.int .i64)))], [], [], [], []⟩
def Z16.l4.u (n : Nat) (v : Z16.l4.s.V) (K : X -> St -> Prop) : Prop := Z16.l4 n v.1.1 v.1.2.1 v.1.2.2.1 (K (.exit 0) ⟨[], [], [], [], []⟩) (fun y0 => K .ret ⟨[(4, .c (.bool y0))], [], [], [], []⟩)
theorem Z16.l4_ok : ∀ n v K, Z16.l4.u n v K -> loopM C X0 n 22 4 (Z16.l4.s.fill v) K :=
 loop_tell hX (fn := Try.f22) (c := bodyOf Try.f22) (a := loopOf Try.f22 4) (li := liOf (C.fi 22).loops 4) (by kernel_rfl) (by kernel_rfl) (of_decide_eq_true rfl) (by kernel_rfl) (by kernel_rfl) (T := Z16.l4.s) (u := Z16.l4.u) (fun _ _ h => h) (call := D67) (lp := fun n => noL) (D67_ok hX) (fun n => noL_ok) (fun n v K => by kernel_rfl)
theorem Z16_ok : ∀ n v K, Z16.u n v K -> callM C X0 n 22 (fillA Z16.a v) K :=
 call_tell hX (fn := Try.f22) (c := bodyOf Try.f22) (by kernel_rfl) (by kernel_rfl) (A := Z16.a) (u := Z16.u) (fun _ _ h => h) (call := D67) (lp := fun n => orL 4 Z16.l4.s (Z16.l4.u n) noL) (D67_ok hX) (fun n => (orL_ok (Z16.l4_ok hX n) noL_ok)) (fun n v K => by kernel_rfl)
def D68 (n : Nat) : CallF := orC 22 Z16.a (Z16.u n) (D67 n)
theorem D68_ok : ∀ n g a K, D68 n g a K -> callM C X0 n g a K := fun n => orC_ok (Z16_ok hX n) (D67_ok hX n)
abbrev laws_FnExactStraight.a : List TS := [.c (.o (.dat 52 Y7)), .c (.o (.dat 70 Y1))]
def laws_FnExactStraight.u (n : Nat) (v : VA laws_FnExactStraight.a) (K : RES -> Prop) : Prop := laws_FnExactStraight.c n v.1 v.2.1 (fun r0 => K ⟨.c (.bool r0), []⟩)
theorem laws_FnExactStraight_ok : ∀ n v K, laws_FnExactStraight.u n v K -> callM C X0 n 4 (fillA laws_FnExactStraight.a v) K :=
 call_tell hX (fn := Try.f4) (c := bodyOf Try.f4) (by kernel_rfl) (by kernel_rfl) (A := laws_FnExactStraight.a) (u := laws_FnExactStraight.u) (fun _ _ h => h) (call := D68) (lp := fun n => noL) (D68_ok hX) (fun n => noL_ok) (fun n v K => by kernel_rfl)
def D69 (n : Nat) : CallF := orC 4 laws_FnExactStraight.a (laws_FnExactStraight.u n) (D68 n)
theorem D69_ok : ∀ n g a K, D69 n g a K -> callM C X0 n g a K := fun n => orC_ok (laws_FnExactStraight_ok hX n) (D68_ok hX n)
end
end Go.Vsi
end
