/- Each told function is what the machine comes to. No statement is proved here. -/
import Derived.Test.YtligefedbeibiaaDoorM3
import Derived.Test.YtligefedbeibiaaDoorA1
import Derived.Shelf.Strconv.Itoa4
import Derived.Shelf.GgClosure.Gives
import Derived.Shelf.Strings.OnBuilder
import Derived.Test.YtligefedbeibiaaDoorProg
import Derived.KernelRfl

section
set_option linter.unusedVariables false
namespace Go.Vsi
abbrev Y5 : Ty := .prod .str (.int .i64)
abbrev Y4 : Ty := .prod (.int .i64) (.sl 87 (.int .u64))
abbrev Y3 : Ty := .prod (.int .i64) (.prod (.int .i64) (.prod .bool (.int .u8)))
abbrev Y2 : Ty := .prod (.int .i64) (.prod (.int .i64) (.prod (.int .i64) (.prod (.int .i64) (.prod (.sl 87 (.int .u64)) (.sl 2 (.int .i64))))))
abbrev Y1 : Ty := .prod (.int .i64) Y2
open Go.Proofs
def tis : List (Nat × TI) := [
(1, ⟨false, 1, 8, [.undef], none, none, []⟩),
(2, ⟨false, 1, 8, [.int .i64 0], some (.int .i64), none, []⟩),
(3, ⟨false, 1, 8, [.int .i64 0], some (.int .i64), none, []⟩),
(4, ⟨false, 1, 1, [.bool false], some (.bool), none, []⟩),
(5, ⟨false, 1, 1, [.int .u8 0], some (.int .u8), none, []⟩),
(6, ⟨false, 1, 1, [.int .u8 0], some (.int .u8), none, []⟩),
(7, ⟨true, 4, 24, [.int .i64 0, .int .i64 0, .bool false, .int .u8 0], some Y3, none, [(0, 2), (1, 3), (2, 4), (3, 6)]⟩),
(8, ⟨true, 4, 24, [.int .i64 0, .int .i64 0, .bool false, .int .u8 0], some Y3, none, [(0, 2), (1, 3), (2, 4), (3, 6)]⟩),
(9, ⟨false, 1, 16, [.str []], some (.str), none, []⟩),
(10, ⟨false, 1, 16, [.str []], some (.str), none, []⟩),
(11, ⟨false, 1, 16, [.str []], some (.str), none, []⟩),
(12, ⟨false, 1, 8, [.int .u64 0], some (.int .u64), none, []⟩),
(13, ⟨true, 2, 24, [.str [], .int .u64 0], some (.prod .str (.int .u64)), none, [(0, 9), (1, 12)]⟩),
(14, ⟨true, 2, 24, [.str [], .int .u64 0], some (.prod .str (.int .u64)), none, [(0, 9), (1, 12)]⟩),
(15, ⟨false, 1, 8, [.undef], none, none, []⟩),
(16, ⟨false, 1, 8, [.undef], none, none, []⟩),
(17, ⟨false, 1, 8, [.undef], none, none, []⟩),
(18, ⟨true, 1, 8, [.undef], none, none, [(0, 17)]⟩),
(19, ⟨true, 1, 8, [.undef], none, none, [(0, 17)]⟩),
(20, ⟨false, 1, 16, [.undef], none, none, []⟩),
(21, ⟨false, 1, 4, [.int .i32 0], some (.int .i32), none, []⟩),
(22, ⟨false, 1, 24, [.emp 40 Y5], some (.sl 40 Y5), some 40, []⟩),
(23, ⟨false, 1, 24, [.emp 62 Y1], some (.sl 62 Y1), some 62, []⟩),
(24, ⟨true, 1, 24, [.emp 62 Y1], some (.sl 62 Y1), none, [(0, 23)]⟩),
(25, ⟨true, 1, 24, [.emp 62 Y1], some (.sl 62 Y1), none, [(0, 23)]⟩),
(26, ⟨false, 1, 8, [.undef], none, none, []⟩),
(27, ⟨false, 1, 8, [.undef], none, none, []⟩),
(28, ⟨false, 1, 8, [.undef], none, none, []⟩),
(29, ⟨false, 1, 24, [.emp 46 Y5], some (.sl 46 Y5), some 46, []⟩),
(30, ⟨false, 1, 8, [.undef], none, none, []⟩),
(31, ⟨false, 1, 24, [.emp 55 Y1], some (.sl 55 Y1), some 55, []⟩),
(32, ⟨true, 1, 24, [.emp 55 Y1], some (.sl 55 Y1), none, [(0, 31)]⟩),
(33, ⟨true, 1, 24, [.emp 55 Y1], some (.sl 55 Y1), none, [(0, 31)]⟩),
(34, ⟨false, 1, 8, [.undef], none, none, []⟩),
(35, ⟨false, 1, 8, [.undef], none, none, []⟩),
(36, ⟨false, 1, 8, [.undef], none, none, []⟩),
(37, ⟨false, 1, 8, [.undef], none, none, []⟩),
(38, ⟨false, 1, 8, [.undef], none, none, []⟩),
(39, ⟨true, 2, 24, [.str [], .int .i64 0], some Y5, none, [(0, 9), (1, 2)]⟩),
(40, ⟨true, 2, 24, [.str [], .int .i64 0], some Y5, none, [(0, 9), (1, 2)]⟩),
(41, ⟨false, 1, 8, [.undef], none, none, []⟩),
(42, ⟨false, 1, 8, [.undef], none, none, []⟩),
(43, ⟨false, 1, 24, [.emp 2 (.int .i64)], some (.sl 2 (.int .i64)), some 2, []⟩),
(44, ⟨false, 1, 8, [.undef], none, none, []⟩),
(45, ⟨false, 1, 8, [.undef], none, none, []⟩),
(46, ⟨true, 2, 24, [.str [], .int .i64 0], some Y5, none, [(0, 9), (1, 2)]⟩),
(47, ⟨false, 1, 8, [.undef], none, none, []⟩),
(48, ⟨false, 1, 8, [.undef], none, none, []⟩),
(49, ⟨false, 1, 24, [.emp 9 .str], some (.sl 9 .str), some 9, []⟩),
(50, ⟨false, 1, 8, [.undef], none, none, []⟩),
(51, ⟨false, 1, 24, [.emp 87 (.int .u64)], some (.sl 87 (.int .u64)), some 87, []⟩),
(52, ⟨true, 2, 32, [.int .i64 0, .emp 87 (.int .u64)], some Y4, none, [(0, 2), (1, 51)]⟩),
(53, ⟨true, 2, 32, [.int .i64 0, .emp 87 (.int .u64)], some Y4, none, [(0, 2), (1, 51)]⟩),
(54, ⟨true, 7, 88, [.int .i64 0, .int .i64 0, .int .i64 0, .int .i64 0, .int .i64 0, .emp 87 (.int .u64), .emp 2 (.int .i64)], some Y1, none, [(0, 2), (1, 2), (2, 2), (3, 2), (4, 53), (6, 43)]⟩),
(55, ⟨true, 7, 88, [.int .i64 0, .int .i64 0, .int .i64 0, .int .i64 0, .int .i64 0, .emp 87 (.int .u64), .emp 2 (.int .i64)], some Y1, none, [(0, 2), (1, 2), (2, 2), (3, 2), (4, 53), (6, 43)]⟩),
(56, ⟨false, 1, 8, [.undef], none, none, []⟩),
(57, ⟨false, 1, 8, [.undef], none, none, []⟩),
(58, ⟨false, 1, 8, [.undef], none, none, []⟩),
(59, ⟨false, 1, 8, [.undef], none, none, []⟩),
(60, ⟨true, 2, 32, [.int .i64 0, .emp 87 (.int .u64)], some Y4, none, [(0, 2), (1, 51)]⟩),
(61, ⟨true, 7, 88, [.int .i64 0, .int .i64 0, .int .i64 0, .int .i64 0, .int .i64 0, .emp 87 (.int .u64), .emp 2 (.int .i64)], some Y1, none, [(0, 2), (1, 2), (2, 2), (3, 2), (4, 60), (6, 43)]⟩),
(62, ⟨true, 7, 88, [.int .i64 0, .int .i64 0, .int .i64 0, .int .i64 0, .int .i64 0, .emp 87 (.int .u64), .emp 2 (.int .i64)], some Y1, none, [(0, 2), (1, 2), (2, 2), (3, 2), (4, 60), (6, 43)]⟩),
(63, ⟨false, 1, 8, [.undef], none, none, []⟩),
(64, ⟨false, 1, 8, [.undef], none, none, []⟩),
(65, ⟨false, 1, 8, [.undef], none, none, []⟩),
(66, ⟨false, 1, 8, [.undef], none, none, []⟩),
(67, ⟨false, 1, 8, [.undef], none, none, []⟩),
(68, ⟨false, 1, 8, [.undef], none, none, []⟩),
(69, ⟨false, 1, 8, [.undef], none, none, []⟩),
(70, ⟨false, 1, 8, [.undef], none, none, []⟩),
(71, ⟨false, 1, 8, [.undef], none, none, []⟩),
(72, ⟨false, 1, 8, [.undef], none, none, []⟩),
(73, ⟨false, 1, 24, [.emp 4 .bool], some (.sl 4 .bool), some 4, []⟩),
(74, ⟨false, 1, 8, [.undef], none, none, []⟩),
(75, ⟨false, 1, 8, [.undef], none, none, []⟩),
(76, ⟨false, 1, 8, [.undef], none, none, []⟩),
(77, ⟨false, 1, 8, [.undef], none, none, []⟩),
(78, ⟨false, 1, 24, [.emp 5 (.int .u8)], some (.sl 5 (.int .u8)), some 5, []⟩),
(79, ⟨false, 1, 8, [.undef], none, none, []⟩),
(80, ⟨false, 1, 8, [.undef], none, none, []⟩),
(81, ⟨false, 1, 8, [.undef], none, none, []⟩),
(82, ⟨false, 1, 8, [.undef], none, none, []⟩),
(83, ⟨false, 1, 8, [.undef], none, none, []⟩),
(84, ⟨false, 1, 8, [.undef], none, none, []⟩),
(86, ⟨false, 1, 8, [.undef], none, none, []⟩),
(87, ⟨false, 1, 8, [.int .u64 0], some (.int .u64), none, []⟩),
(88, ⟨false, 1, 8, [.undef], none, none, []⟩),
(89, ⟨true, 2, 32, [.undef, .undef], none, none, [(0, 88), (1, 78)]⟩),
(90, ⟨true, 2, 32, [.undef, .undef], none, none, [(0, 88), (1, 78)]⟩),
(91, ⟨false, 1, 8, [.undef], none, none, []⟩),
(92, ⟨false, 1, 16, [.undef], none, none, []⟩),
(93, ⟨false, 1, 16, [.undef], none, none, []⟩),
(95, ⟨false, 1, 8, [.undef], none, none, []⟩),
(96, ⟨false, 1, 8, [.undef], none, none, []⟩),
(97, ⟨false, 1, 8, [.undef], none, none, []⟩),
(98, ⟨false, 1, 8, [.undef], none, none, []⟩),
(99, ⟨false, 1, 8, [.undef], none, none, []⟩),
(100, ⟨false, 1, 8, [.undef], none, none, []⟩),
(101, ⟨false, 1, 8, [.undef], none, none, []⟩),
(102, ⟨false, 1, 8, [.undef], none, none, []⟩),
(103, ⟨false, 1, 8, [.undef], none, none, []⟩),
(104, ⟨false, 1, 8, [.undef], none, none, []⟩),
(105, ⟨false, 1, 8, [.undef], none, none, []⟩),
(106, ⟨false, 1, 8, [.undef], none, none, []⟩),
(107, ⟨false, 1, 8, [.undef], none, none, []⟩),
(108, ⟨false, 1, 8, [.undef], none, none, []⟩),
(109, ⟨false, 1, 8, [.undef], none, none, []⟩),
(110, ⟨true, 24, 24, [.int .u8 0, .int .u8 0, .int .u8 0, .int .u8 0, .int .u8 0, .int .u8 0, .int .u8 0, .int .u8 0, .int .u8 0, .int .u8 0, .int .u8 0, .int .u8 0, .int .u8 0, .int .u8 0, .int .u8 0, .int .u8 0, .int .u8 0, .int .u8 0, .int .u8 0, .int .u8 0, .int .u8 0, .int .u8 0, .int .u8 0, .int .u8 0], none, none, []⟩),
(111, ⟨false, 1, 8, [.undef], none, none, []⟩),
(112, ⟨false, 1, 8, [.undef], none, none, []⟩),
(114, ⟨false, 1, 8, [.undef], none, none, []⟩),
(115, ⟨false, 1, 8, [.undef], none, none, []⟩),
(116, ⟨false, 1, 8, [.undef], none, none, []⟩),
(117, ⟨false, 1, 8, [.undef], none, none, []⟩),
(118, ⟨false, 1, 8, [.int .u64 0], some (.int .u64), none, []⟩),
(119, ⟨false, 1, 8, [.undef], none, none, []⟩),
(120, ⟨false, 1, 8, [.undef], none, none, []⟩),
(121, ⟨false, 1, 8, [.undef], none, none, []⟩),
(122, ⟨true, 20, 160, [.int .u64 0, .int .u64 0, .int .u64 0, .int .u64 0, .int .u64 0, .int .u64 0, .int .u64 0, .int .u64 0, .int .u64 0, .int .u64 0, .int .u64 0, .int .u64 0, .int .u64 0, .int .u64 0, .int .u64 0, .int .u64 0, .int .u64 0, .int .u64 0, .int .u64 0, .int .u64 0], none, none, []⟩),
(123, ⟨false, 1, 4, [.int .u32 0], some (.int .u32), none, []⟩),
(124, ⟨true, 65, 65, [.int .u8 0, .int .u8 0, .int .u8 0, .int .u8 0, .int .u8 0, .int .u8 0, .int .u8 0, .int .u8 0, .int .u8 0, .int .u8 0, .int .u8 0, .int .u8 0, .int .u8 0, .int .u8 0, .int .u8 0, .int .u8 0, .int .u8 0, .int .u8 0, .int .u8 0, .int .u8 0, .int .u8 0, .int .u8 0, .int .u8 0, .int .u8 0, .int .u8 0, .int .u8 0, .int .u8 0, .int .u8 0, .int .u8 0, .int .u8 0, .int .u8 0, .int .u8 0, .int .u8 0, .int .u8 0, .int .u8 0, .int .u8 0, .int .u8 0, .int .u8 0, .int .u8 0, .int .u8 0, .int .u8 0, .int .u8 0, .int .u8 0, .int .u8 0, .int .u8 0, .int .u8 0, .int .u8 0, .int .u8 0, .int .u8 0, .int .u8 0, .int .u8 0, .int .u8 0, .int .u8 0, .int .u8 0, .int .u8 0, .int .u8 0, .int .u8 0, .int .u8 0, .int .u8 0, .int .u8 0, .int .u8 0, .int .u8 0, .int .u8 0, .int .u8 0, .int .u8 0], none, none, []⟩),
(125, ⟨false, 1, 8, [.undef], none, none, []⟩),
(126, ⟨false, 1, 8, [.undef], none, none, []⟩),
(127, ⟨false, 1, 8, [.undef], none, none, []⟩),
(128, ⟨false, 1, 8, [.undef], none, none, []⟩),
(129, ⟨false, 1, 8, [.undef], none, none, []⟩),
(130, ⟨false, 1, 8, [.undef], none, none, []⟩),
(131, ⟨true, 32, 32, [.int .u8 0, .int .u8 0, .int .u8 0, .int .u8 0, .int .u8 0, .int .u8 0, .int .u8 0, .int .u8 0, .int .u8 0, .int .u8 0, .int .u8 0, .int .u8 0, .int .u8 0, .int .u8 0, .int .u8 0, .int .u8 0, .int .u8 0, .int .u8 0, .int .u8 0, .int .u8 0, .int .u8 0, .int .u8 0, .int .u8 0, .int .u8 0, .int .u8 0, .int .u8 0, .int .u8 0, .int .u8 0, .int .u8 0, .int .u8 0, .int .u8 0, .int .u8 0], none, none, []⟩),
(132, ⟨true, 64, 64, [.int .u8 0, .int .u8 0, .int .u8 0, .int .u8 0, .int .u8 0, .int .u8 0, .int .u8 0, .int .u8 0, .int .u8 0, .int .u8 0, .int .u8 0, .int .u8 0, .int .u8 0, .int .u8 0, .int .u8 0, .int .u8 0, .int .u8 0, .int .u8 0, .int .u8 0, .int .u8 0, .int .u8 0, .int .u8 0, .int .u8 0, .int .u8 0, .int .u8 0, .int .u8 0, .int .u8 0, .int .u8 0, .int .u8 0, .int .u8 0, .int .u8 0, .int .u8 0, .int .u8 0, .int .u8 0, .int .u8 0, .int .u8 0, .int .u8 0, .int .u8 0, .int .u8 0, .int .u8 0, .int .u8 0, .int .u8 0, .int .u8 0, .int .u8 0, .int .u8 0, .int .u8 0, .int .u8 0, .int .u8 0, .int .u8 0, .int .u8 0, .int .u8 0, .int .u8 0, .int .u8 0, .int .u8 0, .int .u8 0, .int .u8 0, .int .u8 0, .int .u8 0, .int .u8 0, .int .u8 0, .int .u8 0, .int .u8 0, .int .u8 0, .int .u8 0], none, none, []⟩),
(133, ⟨true, 4, 40, [.undef, .undef, .undef, .undef], none, none, [(0, 17), (1, 17), (2, 17), (3, 9)]⟩),
(134, ⟨true, 4, 40, [.undef, .undef, .undef, .undef], none, none, [(0, 17), (1, 17), (2, 17), (3, 9)]⟩),
(135, ⟨true, 0, 0, [], none, none, []⟩),
(136, ⟨true, 0, 0, [], none, none, [(0, 135)]⟩),
(137, ⟨true, 0, 0, [], none, none, [(0, 135)]⟩),
(138, ⟨false, 1, 8, [.undef], none, none, []⟩),
(139, ⟨false, 1, 1, [.int .u8 0], some (.int .u8), none, []⟩),
(140, ⟨false, 1, 1, [.int .u8 0], some (.int .u8), none, []⟩),
(141, ⟨false, 1, 8, [.undef], none, none, []⟩),
(142, ⟨false, 1, 4, [.int .i32 0], some (.int .i32), none, []⟩),
(143, ⟨false, 1, 4, [.int .i32 0], some (.int .i32), none, []⟩),
(144, ⟨true, 11, 48, [.undef, .undef, .undef, .undef, .undef, .undef, .undef, .undef, .undef, .undef, .undef], none, none, [(0, 12), (1, 12), (2, 123), (3, 139), (4, 5), (5, 5), (6, 140), (7, 141), (8, 115), (9, 142), (10, 143)]⟩),
(145, ⟨true, 11, 48, [.undef, .undef, .undef, .undef, .undef, .undef, .undef, .undef, .undef, .undef, .undef], none, none, [(0, 12), (1, 12), (2, 123), (3, 139), (4, 5), (5, 5), (6, 140), (7, 141), (8, 115), (9, 142), (10, 143)]⟩),
(146, ⟨false, 1, 8, [.undef], none, none, []⟩)]
noncomputable def fns : List (Nat × Func) := [(3, Tryd.f3), (4, Tryd.f4), (5, Tryd.f5), (6, Tryd.f6), (7, Tryd.f7), (8, Tryd.f8), (9, Tryd.f9), (10, Tryd.f10), (11, Tryd.f11), (12, Tryd.f12), (13, Tryd.f13), (14, Tryd.f14), (15, Tryd.f15), (16, Tryd.f16), (17, Tryd.f17), (18, Tryd.f18), (19, Tryd.f19), (20, Tryd.f20), (21, Tryd.f21), (22, Tryd.f22), (23, Tryd.f23), (24, Tryd.f24), (25, Tryd.f25), (26, Tryd.f26), (27, Tryd.f27), (28, Tryd.f28), (29, Tryd.f29), (30, Tryd.f30), (31, Tryd.f31), (32, Tryd.f32), (33, Tryd.f33), (34, Tryd.f34), (37, Tryd.f37), (38, Tryd.f38), (39, Tryd.f39), (40, Tryd.f40), (41, Tryd.f41), (42, Tryd.f42), (43, Tryd.f43), (44, Tryd.f44), (45, Tryd.f45), (46, Tryd.f46), (47, Tryd.f47), (48, Tryd.f48), (49, Tryd.f49), (50, Tryd.f50), (51, Tryd.f51), (52, Tryd.f52), (53, Tryd.f53), (58, Tryd.f58), (59, Tryd.f59), (60, Tryd.f60), (61, Tryd.f61), (62, Tryd.f62), (63, Tryd.f63), (64, Tryd.f64), (65, Tryd.f65), (66, Tryd.f66), (67, Tryd.f67), (68, Tryd.f68), (69, Tryd.f69), (70, Tryd.f70), (71, Tryd.f71), (78, Tryd.f78), (79, Tryd.f79), (80, Tryd.f80)]
def fis : List (Nat × Fi) := [
(3, ⟨[], [], []⟩),
(4, ⟨[], [], [(5, ⟨⟨[0, 1, 5], []⟩, [(0, ⟨[1], []⟩)], ⟨[4], []⟩⟩)]⟩),
(5, ⟨[], [], []⟩),
(6, ⟨[], [], []⟩),
(7, ⟨[], [], [(3, ⟨⟨[0, 3, 4], []⟩, [(0, ⟨[3], []⟩)], ⟨[2], []⟩⟩)]⟩),
(8, ⟨[], [], []⟩),
(9, ⟨[], [], [(5, ⟨⟨[0, 3, 5, 22, 23], []⟩, [(0, ⟨[5], []⟩)], ⟨[4], []⟩⟩), (10, ⟨⟨[0, 3, 5, 6, 7, 8, 9, 22, 23, 39, 40, 41], []⟩, [(2, ⟨[0, 3, 5, 6, 7, 8, 9, 22, 23], []⟩)], ⟨[4], []⟩⟩)]⟩),
(10, ⟨[], [], [(4, ⟨⟨[0, 1, 5], []⟩, [(0, ⟨[], []⟩)], ⟨[4], []⟩⟩)]⟩),
(11, ⟨[], [], []⟩),
(12, ⟨[], [], []⟩),
(13, ⟨[], [], [(5, ⟨⟨[0, 1, 5], []⟩, [(0, ⟨[1], []⟩)], ⟨[4], []⟩⟩)]⟩),
(14, ⟨[], [], []⟩),
(15, ⟨[], [], [(3, ⟨⟨[0, 3, 5, 6], [(5, 0, .own 99)]⟩, [(0, ⟨[5], []⟩)], ⟨[4], []⟩⟩), (18, ⟨⟨[0, 3, 5, 6, 7, 8, 9], []⟩, [(3, ⟨[0, 3, 5, 6, 8], []⟩)], ⟨[4], []⟩⟩)]⟩),
(16, ⟨[], [], [(13, ⟨⟨[0, 4, 7, 8, 9], []⟩, [(1, ⟨[8], []⟩)], ⟨[6], []⟩⟩)]⟩),
(17, ⟨[], [], []⟩),
(18, ⟨[], [], [(3, ⟨⟨[0, 3, 4], []⟩, [(0, ⟨[3], []⟩)], ⟨[2], []⟩⟩)]⟩),
(19, ⟨[], [], []⟩),
(20, ⟨[], [], []⟩),
(21, ⟨[], [], []⟩),
(22, ⟨[], [], [(4, ⟨⟨[0, 1, 5], []⟩, [(0, ⟨[], []⟩)], ⟨[4], []⟩⟩)]⟩),
(23, ⟨[], [], []⟩),
(24, ⟨[], [], [(7, ⟨⟨[0, 3, 5, 6, 7, 8], [(6, 0, .own 99)]⟩, [(0, ⟨[5, 6, 7], []⟩)], ⟨[4], []⟩⟩), (16, ⟨⟨[0, 3, 5, 6, 7, 8, 10], []⟩, [(2, ⟨[0, 3, 5, 6, 7, 8], []⟩)], ⟨[4], []⟩⟩), (20, ⟨⟨[5, 6, 7, 11], []⟩, [(4, ⟨[6], []⟩)], ⟨[4], []⟩⟩)]⟩),
(25, ⟨[], [], [(8, ⟨⟨[1, 3, 4, 5], [(4, 0, .own 99)]⟩, [(0, ⟨[4], []⟩)], ⟨[2], []⟩⟩)]⟩),
(26, ⟨[], [], []⟩),
(27, ⟨[], [], []⟩),
(28, ⟨[], [], [(4, ⟨⟨[0, 3], []⟩, [(0, ⟨[3], []⟩)], ⟨[2], []⟩⟩)]⟩),
(29, ⟨[], [], []⟩),
(30, ⟨[], [], [(5, ⟨⟨[0, 3, 9, 10, 11], []⟩, [(0, ⟨[3], []⟩)], ⟨[2], []⟩⟩)]⟩),
(31, ⟨[], [], []⟩),
(32, ⟨[], [], [(8, ⟨⟨[1, 3, 5, 6], [(5, 0, .own 99)]⟩, [(0, ⟨[5], []⟩)], ⟨[2], []⟩⟩)]⟩),
(33, ⟨[], [], []⟩),
(34, ⟨[], [], []⟩),
(35, ⟨[], [], []⟩),
(36, ⟨[], [], []⟩),
(37, ⟨[], [], []⟩),
(38, ⟨[], [], []⟩),
(39, ⟨[], [], []⟩),
(40, ⟨[], [], [(5, ⟨⟨[0, 3, 4], []⟩, [(0, ⟨[3], []⟩)], ⟨[2], []⟩⟩), (10, ⟨⟨[0, 3, 4, 5], []⟩, [(2, ⟨[0, 3, 4], []⟩)], ⟨[2], []⟩⟩)]⟩),
(41, ⟨[], [], [(2, ⟨⟨[0, 2, 4, 7], []⟩, [(0, ⟨[0, 4], []⟩)], ⟨[6], []⟩⟩), (1000007, ⟨⟨[0, 4, 63], []⟩, [(1000000, ⟨[0, 4], []⟩)], ⟨[6], []⟩⟩), (1000008, ⟨⟨[0, 4], []⟩, [(1000000, ⟨[6], []⟩)], ⟨[6], []⟩⟩)]⟩),
(42, ⟨[], [], [(3, ⟨⟨[0, 2, 4, 7, 8], []⟩, [(0, ⟨[0, 4, 7], []⟩)], ⟨[6], []⟩⟩)]⟩),
(43, ⟨[], [], []⟩),
(44, ⟨[], [], [(4, ⟨⟨[1, 3], []⟩, [(0, ⟨[], []⟩)], ⟨[2], []⟩⟩)]⟩),
(45, ⟨[], [], [(3, ⟨⟨[0, 3, 4], [(3, 0, .own 99)]⟩, [(0, ⟨[3], []⟩)], ⟨[2], []⟩⟩)]⟩),
(46, ⟨[], [], [(3, ⟨⟨[1, 3, 4], [(3, 0, .own 99)]⟩, [(0, ⟨[3], []⟩)], ⟨[2], []⟩⟩)]⟩),
(47, ⟨[], [], []⟩),
(48, ⟨[], [], [(3, ⟨⟨[0, 3, 4], []⟩, [(0, ⟨[3], []⟩)], ⟨[2], []⟩⟩)]⟩),
(49, ⟨[], [], [(4, ⟨⟨[0, 3], []⟩, [(0, ⟨[], []⟩)], ⟨[2], []⟩⟩)]⟩),
(50, ⟨[], [], []⟩),
(51, ⟨[], [], []⟩),
(52, ⟨[], [], [(6, ⟨⟨[0, 3, 6, 7, 8, 29, 30], []⟩, [(0, ⟨[6, 7, 8], []⟩)], ⟨[4, 5], []⟩⟩), (13, ⟨⟨[0, 3, 6, 7, 8, 9, 10, 11, 29, 30, 52, 53, 54], []⟩, [(2, ⟨[0, 3, 6, 7, 8, 9, 10, 11, 29, 30], []⟩)], ⟨[4, 5], []⟩⟩)]⟩),
(53, ⟨[], [], []⟩),
(58, ⟨[], [], []⟩),
(59, ⟨[], [], [(4, ⟨⟨[0, 1, 5], []⟩, [(0, ⟨[], []⟩)], ⟨[4], []⟩⟩)]⟩),
(60, ⟨[], [], []⟩),
(61, ⟨[], [], [(4, ⟨⟨[0, 3], []⟩, [(0, ⟨[], []⟩)], ⟨[2], []⟩⟩)]⟩),
(62, ⟨[], [], []⟩),
(63, ⟨[], [], []⟩),
(64, ⟨[], [], []⟩),
(65, ⟨[], [], [(3, ⟨⟨[0, 3, 4], []⟩, [(0, ⟨[3], []⟩)], ⟨[2], []⟩⟩)]⟩),
(66, ⟨[], [], [(2, ⟨⟨[0, 1, 7, 8], []⟩, [(0, ⟨[], []⟩)], ⟨[4], []⟩⟩)]⟩),
(67, ⟨[], [], []⟩),
(68, ⟨[], [], [(11, ⟨⟨[8, 80, 81, 82], []⟩, [(1, ⟨[8], []⟩)], ⟨[6], []⟩⟩), (1000005, ⟨⟨[0, 1, 2, 7, 17], []⟩, [(1000000, ⟨[], []⟩)], ⟨[6], []⟩⟩), (1000009, ⟨⟨[0, 2, 7, 69], []⟩, [(1000000, ⟨[], []⟩)], ⟨[6], []⟩⟩), (1000021, ⟨⟨[0, 7, 137], []⟩, [(1000000, ⟨[], []⟩)], ⟨[6], []⟩⟩)]⟩),
(69, ⟨[], [], [(1000002, ⟨⟨[0, 3], []⟩, [(1000000, ⟨[2], []⟩)], ⟨[2], []⟩⟩), (1000003, ⟨⟨[0, 52], []⟩, [(1000000, ⟨[0], []⟩)], ⟨[2], []⟩⟩)]⟩),
(70, ⟨[], [], []⟩),
(71, ⟨[], [], []⟩),
(78, ⟨[], [], [(4, ⟨⟨[0, 1, 5], []⟩, [(0, ⟨[], []⟩)], ⟨[4], []⟩⟩)]⟩),
(79, ⟨[], [], []⟩),
(80, ⟨[], [], [(2, ⟨⟨[0, 1, 7, 8], []⟩, [(0, ⟨[], []⟩)], ⟨[4], []⟩⟩)]⟩)]
def fiF (f : Nat) : Fi := (look f fis).getD ⟨[], [], []⟩
noncomputable def C : Ctx := { ti := fun t => look t tis, fs := fun f => look f fns, fi := fiF }
def bodyOf (f : Func) : Code := f.body.getD .skip
def loopOf (f : Func) (k : Nat) : Code := (findLoop k (bodyOf f)).getD .skip
def cutOf (f : Func) (k : Nat) : Code := (findCut k (bodyOf f)).getD .skip
def liOf (l : List (Nat × Li)) (k : Nat) : Li := (look k l).getD ⟨⟨[], []⟩, [], ⟨[], []⟩⟩
theorem tis_ok : (tis.all fun x => tiB Tryd.prog x.1 x.2) = true := by kernel_rfl
theorem fns_all : (fns.all fun x => fnB (fiF x.1) x.2) = true := by kernel_rfl
theorem fnp (f : Nat) (x : Func) (r : List (Nat × Func)) (h : Tryd.prog.funcs[f]? = some x) (hr : ∀ y ∈ r, Tryd.prog.funcs[y.1]? = some y.2) : ∀ y ∈ (f, x) :: r, Tryd.prog.funcs[y.1]? = some y.2 := List.forall_mem_cons.2 ⟨h, hr⟩
set_option maxRecDepth 100000 in
theorem fns_prog : ∀ x ∈ fns, Tryd.prog.funcs[x.1]? = some x.2 := (fnp _ _ _ Tryd.func3
(fnp _ _ _ Tryd.func4
(fnp _ _ _ Tryd.func5
(fnp _ _ _ Tryd.func6
(fnp _ _ _ Tryd.func7
(fnp _ _ _ Tryd.func8
(fnp _ _ _ Tryd.func9
(fnp _ _ _ Tryd.func10
(fnp _ _ _ Tryd.func11
(fnp _ _ _ Tryd.func12
(fnp _ _ _ Tryd.func13
(fnp _ _ _ Tryd.func14
(fnp _ _ _ Tryd.func15
(fnp _ _ _ Tryd.func16
(fnp _ _ _ Tryd.func17
(fnp _ _ _ Tryd.func18
(fnp _ _ _ Tryd.func19
(fnp _ _ _ Tryd.func20
(fnp _ _ _ Tryd.func21
(fnp _ _ _ Tryd.func22
(fnp _ _ _ Tryd.func23
(fnp _ _ _ Tryd.func24
(fnp _ _ _ Tryd.func25
(fnp _ _ _ Tryd.func26
(fnp _ _ _ Tryd.func27
(fnp _ _ _ Tryd.func28
(fnp _ _ _ Tryd.func29
(fnp _ _ _ Tryd.func30
(fnp _ _ _ Tryd.func31
(fnp _ _ _ Tryd.func32
(fnp _ _ _ Tryd.func33
(fnp _ _ _ Tryd.func34
(fnp _ _ _ Tryd.func37
(fnp _ _ _ Tryd.func38
(fnp _ _ _ Tryd.func39
(fnp _ _ _ Tryd.func40
(fnp _ _ _ Tryd.func41
(fnp _ _ _ Tryd.func42
(fnp _ _ _ Tryd.func43
(fnp _ _ _ Tryd.func44
(fnp _ _ _ Tryd.func45
(fnp _ _ _ Tryd.func46
(fnp _ _ _ Tryd.func47
(fnp _ _ _ Tryd.func48
(fnp _ _ _ Tryd.func49
(fnp _ _ _ Tryd.func50
(fnp _ _ _ Tryd.func51
(fnp _ _ _ Tryd.func52
(fnp _ _ _ Tryd.func53
(fnp _ _ _ Tryd.func58
(fnp _ _ _ Tryd.func59
(fnp _ _ _ Tryd.func60
(fnp _ _ _ Tryd.func61
(fnp _ _ _ Tryd.func62
(fnp _ _ _ Tryd.func63
(fnp _ _ _ Tryd.func64
(fnp _ _ _ Tryd.func65
(fnp _ _ _ Tryd.func66
(fnp _ _ _ Tryd.func67
(fnp _ _ _ Tryd.func68
(fnp _ _ _ Tryd.func69
(fnp _ _ _ Tryd.func70
(fnp _ _ _ Tryd.func71
(fnp _ _ _ Tryd.func78
(fnp _ _ _ Tryd.func79
(fnp _ _ _ Tryd.func80
(fun _ h => by cases h)))))))))))))))))))))))))))))))))))))))))))))))))))))))))))))))))))
theorem C_ok : CtxOK Tryd.prog C := ctx_ok tis_ok fns_prog
theorem C_fns : FnsOK Tryd.prog C := Go.Vsi.fns_ok fns_all
theorem C_follows : Tryd.prog.follows .mixedOrders = true := by kernel_rfl
def D0 (n : Nat) : CallF := noC
theorem D0_ok {X0 : CallF} (hX : CallF.Mono X0) : ∀ n g a K, D0 n g a K -> callM C X0 n g a K := fun n => noC_ok
end Go.Vsi
namespace Go.Proofs
open Go.Shelf
def Tryd.fmtL_ren : Go.Shelf.Ren := ⟨fun | 173 => 35 | 246 => 54 | 283 => 72 | 284 => 73 | 285 => 74 | 286 => 75 | 129 => 82 | 317 => 81 | 318 => 83 | 319 => 84 | 320 => 85 | 337 => 88 | 338 => 89 | n => n, fun | 2 => 2 | 3 => 3 | 9 => 9 | 4 => 4 | 171 => 110 | 0 => 0 | 53 => 87 | 37 => 78 | 5 => 5 | 173 => 113 | 212 => 122 | 51 => 123 | 20 => 20 | 213 => 124 | 46 => 118 | 232 => 131 | 233 => 132 | n => n, fun | 17 => 0 | 18 => 2 | 19 => 3 | n => n⟩
theorem Tryd.fmtL : Go.Proofs.LaysM.n173 Tryd.prog Tryd.fmtL_ren where
 mixed := by kernel_rfl
 f129 := Tryd.func82.trans (congrArg some (by kernel_rfl))
 f173 := Tryd.func35.trans (congrArg some (by kernel_rfl))
 f246 := Tryd.func54.trans (congrArg some (by kernel_rfl))
 f283 := Tryd.func72.trans (congrArg some (by kernel_rfl))
 f284 := Tryd.func73.trans (congrArg some (by kernel_rfl))
 f285 := Tryd.func74.trans (congrArg some (by kernel_rfl))
 f286 := Tryd.func75.trans (congrArg some (by kernel_rfl))
 f317 := Tryd.func81.trans (congrArg some (by kernel_rfl))
 f318 := Tryd.func83.trans (congrArg some (by kernel_rfl))
 f319 := Tryd.func84.trans (congrArg some (by kernel_rfl))
 f320 := Tryd.func85.trans (congrArg some (by kernel_rfl))
 f337 := Tryd.func88.trans (congrArg some (by kernel_rfl))
 f338 := Tryd.func89.trans (congrArg some (by kernel_rfl))
 t0 := Tryd.underlying0
 a0 := Tryd.isAgg0
 z0 := Tryd.sizeOf0
 v0 := Tryd.zeroValue0
 t2 := Tryd.underlying2
 a2 := Tryd.isAgg2
 z2 := Tryd.sizeOf2
 v2 := Tryd.zeroValue2
 t3 := Tryd.underlying3
 a3 := Tryd.isAgg3
 z3 := Tryd.sizeOf3
 v3 := Tryd.zeroValue3
 t4 := Tryd.underlying4
 a4 := Tryd.isAgg4
 z4 := Tryd.sizeOf4
 v4 := Tryd.zeroValue4
 t5 := Tryd.underlying5
 a5 := Tryd.isAgg5
 z5 := Tryd.sizeOf5
 v5 := Tryd.zeroValue5
 t9 := Tryd.underlying9
 a9 := Tryd.isAgg9
 z9 := Tryd.sizeOf9
 v9 := Tryd.zeroValue9
 t20 := Tryd.underlying20
 a20 := Tryd.isAgg20
 z20 := Tryd.sizeOf20
 v20 := Tryd.zeroValue20
 t37 := Tryd.underlying78
 a37 := Tryd.isAgg78
 z37 := Tryd.sizeOf78
 v37 := Tryd.zeroValue78
 t46 := Tryd.underlying118
 a46 := Tryd.isAgg118
 z46 := Tryd.sizeOf118
 v46 := Tryd.zeroValue118
 t51 := Tryd.underlying123
 a51 := Tryd.isAgg123
 z51 := Tryd.sizeOf123
 v51 := Tryd.zeroValue123
 t53 := Tryd.underlying87
 a53 := Tryd.isAgg87
 z53 := Tryd.sizeOf87
 v53 := Tryd.zeroValue87
 t171 := Tryd.underlying110
 a171 := Tryd.isAgg110
 z171 := Tryd.sizeOf110
 v171 := Tryd.zeroValue110
 t173 := Tryd.underlying113
 a173 := Tryd.isAgg113
 z173 := Tryd.sizeOf113
 v173 := Tryd.zeroValue113
 t212 := Tryd.underlying122
 a212 := Tryd.isAgg122
 z212 := Tryd.sizeOf122
 v212 := Tryd.zeroValue122
 t213 := Tryd.underlying124
 a213 := Tryd.isAgg124
 z213 := Tryd.sizeOf124
 t232 := Tryd.underlying131
 a232 := Tryd.isAgg131
 z232 := Tryd.sizeOf131
 v232 := Tryd.zeroValue131
 t233 := Tryd.underlying132
 a233 := Tryd.isAgg132
 z233 := Tryd.sizeOf132
 v233 := Tryd.zeroValue132
 g17 := by kernel_rfl
 g18 := by kernel_rfl
 g19 := by kernel_rfl
 i0 := by kernel_rfl
 i2 := by kernel_rfl
 i3 := by kernel_rfl
 i4 := by kernel_rfl
 i5 := by kernel_rfl
 i9 := by kernel_rfl
 i20 := by kernel_rfl
 i37 := by kernel_rfl
 i46 := by kernel_rfl
 i51 := by kernel_rfl
 i53 := by kernel_rfl
 i171 := by kernel_rfl
 i173 := by kernel_rfl
 i212 := by kernel_rfl
 i232 := by kernel_rfl
 i233 := by kernel_rfl
 m17 := by kernel_rfl
 m18 := by kernel_rfl
 m19 := by kernel_rfl
end Go.Proofs
namespace Go.Vsi
open Go.Proofs
theorem fmt_ok : FmtOK Tryd.prog 35 := ⟨fun n w h0 h1 ht => (Any.strconv_FormatInt_10 Tryd.fmtL n h0 h1 w ht).mono fun e w' ⟨he, q, os, hw⟩ => ⟨he, hw ▸ ⟨rfl, rfl, rfl, by rw [Sort.size_grow]; exact Nat.le_add_right _ _, fun k hk => Sort.heap_grow_old _ _ hk⟩⟩⟩
end Go.Vsi
namespace Go.Proofs
open Go.Shelf
def Tryd.joinL_ren : Go.Shelf.Ren := ⟨fun | 156 => 36 | 165 => 55 | 166 => 56 | 169 => 57 | 240 => 76 | 241 => 77 | 276 => 86 | 277 => 87 | n => n, fun | 31 => 49 | 9 => 9 | 3 => 3 | 4 => 4 | 0 => 0 | 20 => 20 | 72 => 90 | 76 => 94 | 70 => 88 | 37 => 78 | 75 => 93 | 127 => 115 | 164 => 127 | 5 => 5 | 80 => 96 | n => n, fun | n => n⟩
theorem Tryd.joinL : Go.Proofs.Lays.n156 Tryd.prog Tryd.joinL_ren where
 mixed := by kernel_rfl
 f156 := Tryd.func36.trans (congrArg some (by kernel_rfl))
 f165 := Tryd.func55.trans (congrArg some (by kernel_rfl))
 f166 := Tryd.func56.trans (congrArg some (by kernel_rfl))
 f169 := Tryd.func57.trans (congrArg some (by kernel_rfl))
 f240 := Tryd.func76.trans (congrArg some (by kernel_rfl))
 f241 := Tryd.func77.trans (congrArg some (by kernel_rfl))
 f276 := Tryd.func86.trans (congrArg some (by kernel_rfl))
 f277 := Tryd.func87.trans (congrArg some (by kernel_rfl))
 t0 := Tryd.underlying0
 a0 := Tryd.isAgg0
 z0 := Tryd.sizeOf0
 v0 := Tryd.zeroValue0
 t3 := Tryd.underlying3
 a3 := Tryd.isAgg3
 z3 := Tryd.sizeOf3
 v3 := Tryd.zeroValue3
 t4 := Tryd.underlying4
 a4 := Tryd.isAgg4
 z4 := Tryd.sizeOf4
 v4 := Tryd.zeroValue4
 t9 := Tryd.underlying9
 a9 := Tryd.isAgg9
 z9 := Tryd.sizeOf9
 v9 := Tryd.zeroValue9
 t20 := Tryd.underlying20
 a20 := Tryd.isAgg20
 z20 := Tryd.sizeOf20
 v20 := Tryd.zeroValue20
 t31 := Tryd.underlying49
 a31 := Tryd.isAgg49
 z31 := Tryd.sizeOf49
 v31 := Tryd.zeroValue49
 t37 := Tryd.underlying78
 a37 := Tryd.isAgg78
 z37 := Tryd.sizeOf78
 v37 := Tryd.zeroValue78
 t70 := Tryd.underlying88
 a70 := Tryd.isAgg88
 z70 := Tryd.sizeOf88
 v70 := Tryd.zeroValue88
 t72 := Tryd.underlying90
 a72 := Tryd.isAgg90
 z72 := Tryd.sizeOf90
 v72 := Tryd.zeroValue90
 t75 := Tryd.underlying93
 a75 := Tryd.isAgg93
 z75 := Tryd.sizeOf93
 v75 := Tryd.zeroValue93
 t76 := Tryd.underlying94
 a76 := Tryd.isAgg94
 z76 := Tryd.sizeOf94
 v76 := Tryd.zeroValue94
 t127 := Tryd.underlying115
 a127 := Tryd.isAgg115
 z127 := Tryd.sizeOf115
 v127 := Tryd.zeroValue115
 t164 := Tryd.underlying127
 a164 := Tryd.isAgg127
 z164 := Tryd.sizeOf127
 v164 := Tryd.zeroValue127
theorem Tryd.joinX : Builder.Extra Tryd.prog Tryd.joinL_ren where
 sizeBuilder := by kernel_rfl
 liesBuilder := by kernel_rfl
 t5 := Tryd.underlying5
 a5 := Tryd.isAgg5
 z5 := Tryd.sizeOf5
 v5 := Tryd.zeroValue5
 infoByte := by kernel_rfl
 cellsByte := by kernel_rfl
 sizeByte := by kernel_rfl
 neB5 := by decide
end Go.Proofs
namespace Go.Vsi
open Go.Proofs
theorem join_ok : JoinOK Tryd.prog 36 := ⟨fun a c sep w => (Any.strings_Join_none Tryd.joinL Tryd.joinX a c sep w).mono fun e w' ⟨he, hw⟩ => ⟨he, hw ▸ Go.RowKit.Below.refl _ _⟩, fun bk o c xs sep w h1 h2 h3 h4 h5 => Any.strings_Join Tryd.joinL Tryd.joinX bk o c xs sep w h1 h2 h3 h4 h5⟩
def X0 : CallF := bothX (oneX fmtB 35) (oneX joinB 36)
theorem X0_mono : CallF.Mono X0 := bothX_mono (oneX_mono fmtB_mono 35) (oneX_mono joinB_mono 36)
set_option maxRecDepth 100000 in
theorem X0_ok : CallOK Tryd.prog C X0 := bothX_ok (fmtX_ok fmt_ok (by kernel_rfl) (by kernel_rfl) (by kernel_rfl) Tryd.func35 (by kernel_rfl) (by kernel_rfl)) (joinX_ok join_ok (by kernel_rfl) Tryd.func36 (by kernel_rfl) (by kernel_rfl))
theorem X0_fmt : ∀ args K, fmtB args K -> X0 35 args K := fun args K h => .inl ⟨rfl, h⟩
theorem X0_join : ∀ args K, joinB args K -> X0 36 args K := fun args K h => .inr (⟨rfl, h⟩)
end Go.Vsi
end

section
set_option linter.unusedVariables false
namespace Go.Vsi
open Go.Proofs
section
variable (hX : CallF.Mono X0)
include hX
abbrev Z26.a : List TS := [.a [.o .str, .o (.int .i64)], .c (.o (.int .i64))]
def Z26.u (n : Nat) (v : VA Z26.a) (K : RES -> Prop) : Prop := Z26.c n v.1.1 v.1.2.1 v.2.1 (fun r0 => K ⟨.c (.int .i64 r0), []⟩)
theorem Z26_ok : ∀ n v K, Z26.u n v K -> callM C X0 n 12 (fillA Z26.a v) K :=
 call_tell hX (fn := Tryd.f12) (c := bodyOf Tryd.f12) (by kernel_rfl) (by kernel_rfl) (A := Z26.a) (u := Z26.u) (fun _ _ h => h) (call := D0) (lp := fun n => noL) (D0_ok hX) (fun n => noL_ok) (fun n v K => by kernel_rfl)
def D1 (n : Nat) : CallF := orC 12 Z26.a (Z26.u n) (D0 n)
theorem D1_ok : ∀ n g a K, D1 n g a K -> callM C X0 n g a K := fun n => orC_ok (Z26_ok hX n) (D0_ok hX n)
abbrev Z27.a : List TS := [.c (.o (.dat 40 Y5)), .c (.o (.int .i64))]
def Z27.u (n : Nat) (v : VA Z27.a) (K : RES -> Prop) : Prop := Z27.c n v.1 v.2.1 (fun r0 => K ⟨.c (.int .i64 r0), []⟩)
abbrev Z27.l5.s : ST := ⟨[(0, .c (.o (.dat 40 Y5))), (1, .c (.o (.int .i64))), (5, .c (.o (.int .i64)))], [], [], [], []⟩
def Z27.l5.u (n : Nat) (v : Z27.l5.s.V) (K : X -> St -> Prop) : Prop := Z27.l5 n v.1.1 v.1.2.1 v.1.2.2.1 (fun y0 => K (.exit 0) ⟨[(1, .c (.int .i64 y0))], [], [], [], []⟩) (fun y0 => K .ret ⟨[(4, .c (.int .i64 y0))], [], [], [], []⟩)
theorem Z27.l5_ok : ∀ n v K, Z27.l5.u n v K -> loopM C X0 n 4 5 (Z27.l5.s.fill v) K :=
 loop_tell hX (fn := Tryd.f4) (c := bodyOf Tryd.f4) (a := loopOf Tryd.f4 5) (li := liOf (C.fi 4).loops 5) (by kernel_rfl) (by kernel_rfl) (of_decide_eq_true rfl) (by kernel_rfl) (by kernel_rfl) (T := Z27.l5.s) (u := Z27.l5.u) (fun _ _ h => h) (call := D1) (lp := fun n => noL) (D1_ok hX) (fun n => noL_ok) (fun n v K => by kernel_rfl)
theorem Z27_ok : ∀ n v K, Z27.u n v K -> callM C X0 n 4 (fillA Z27.a v) K :=
 call_tell hX (fn := Tryd.f4) (c := bodyOf Tryd.f4) (by kernel_rfl) (by kernel_rfl) (A := Z27.a) (u := Z27.u) (fun _ _ h => h) (call := D1) (lp := fun n => orL 5 Z27.l5.s (Z27.l5.u n) noL) (D1_ok hX) (fun n => (orL_ok (Z27.l5_ok hX n) noL_ok)) (fun n v K => by kernel_rfl)
def D2 (n : Nat) : CallF := orC 4 Z27.a (Z27.u n) (D1 n)
theorem D2_ok : ∀ n g a K, D2 n g a K -> callM C X0 n g a K := fun n => orC_ok (Z27_ok hX n) (D1_ok hX n)
abbrev Z32.a : List TS := [.c (.o (.dat 87 (.int .u64))), .c (.o (.int .i64))]
def Z32.u (n : Nat) (v : VA Z32.a) (K : RES -> Prop) : Prop := Z32.c n v.1 v.2.1 (fun r0 => K ⟨.c (.int .i64 r0), []⟩)
theorem Z32_ok : ∀ n v K, Z32.u n v K -> callM C X0 n 60 (fillA Z32.a v) K :=
 call_tell hX (fn := Tryd.f60) (c := bodyOf Tryd.f60) (by kernel_rfl) (by kernel_rfl) (A := Z32.a) (u := Z32.u) (fun _ _ h => h) (call := D2) (lp := fun n => noL) (D2_ok hX) (fun n => noL_ok) (fun n v K => by kernel_rfl)
def D3 (n : Nat) : CallF := orC 60 Z32.a (Z32.u n) (D2 n)
theorem D3_ok : ∀ n g a K, D3 n g a K -> callM C X0 n g a K := fun n => orC_ok (Z32_ok hX n) (D2_ok hX n)
abbrev Z25.a : List TS := [.a [.o (.int .i64), .o (.dat 87 (.int .u64))], .c (.o (.int .i64))]
def Z25.u (n : Nat) (v : VA Z25.a) (K : RES -> Prop) : Prop := Z25.c n v.1.1 v.1.2.1 v.2.1 (fun r0 => K ⟨.c (.int .i64 r0), []⟩)
theorem Z25_ok : ∀ n v K, Z25.u n v K -> callM C X0 n 38 (fillA Z25.a v) K :=
 call_tell hX (fn := Tryd.f38) (c := bodyOf Tryd.f38) (by kernel_rfl) (by kernel_rfl) (A := Z25.a) (u := Z25.u) (fun _ _ h => h) (call := D3) (lp := fun n => noL) (D3_ok hX) (fun n => noL_ok) (fun n v K => by kernel_rfl)
def D4 (n : Nat) : CallF := orC 38 Z25.a (Z25.u n) (D3 n)
theorem D4_ok : ∀ n g a K, D4 n g a K -> callM C X0 n g a K := fun n => orC_ok (Z25_ok hX n) (D3_ok hX n)
abbrev Z28.a : List TS := [.c (.o (.dat 2 (.int .i64))), .c (.o (.int .i64))]
def Z28.u (n : Nat) (v : VA Z28.a) (K : RES -> Prop) : Prop := Z28.c n v.1 v.2.1 (fun r0 => K ⟨.c (.int .i64 r0), []⟩)
theorem Z28_ok : ∀ n v K, Z28.u n v K -> callM C X0 n 39 (fillA Z28.a v) K :=
 call_tell hX (fn := Tryd.f39) (c := bodyOf Tryd.f39) (by kernel_rfl) (by kernel_rfl) (A := Z28.a) (u := Z28.u) (fun _ _ h => h) (call := D4) (lp := fun n => noL) (D4_ok hX) (fun n => noL_ok) (fun n v K => by kernel_rfl)
def D5 (n : Nat) : CallF := orC 39 Z28.a (Z28.u n) (D4 n)
theorem D5_ok : ∀ n g a K, D5 n g a K -> callM C X0 n g a K := fun n => orC_ok (Z28_ok hX n) (D4_ok hX n)
abbrev Z29.a : List TS := [.a [.o (.int .i64), .o (.int .i64), .o (.int .i64), .o (.int .i64), .o (.int .i64), .o (.dat 87 (.int .u64)), .o (.dat 2 (.int .i64))], .c (.o (.int .i64))]
def Z29.u (n : Nat) (v : VA Z29.a) (K : RES -> Prop) : Prop := Z29.c n v.1.1 v.1.2.1 v.1.2.2.1 v.1.2.2.2.1 v.1.2.2.2.2.1 v.1.2.2.2.2.2.1 v.1.2.2.2.2.2.2.1 v.2.1 (fun r0 => K ⟨.c (.int .i64 r0), []⟩)
theorem Z29_ok : ∀ n v K, Z29.u n v K -> callM C X0 n 23 (fillA Z29.a v) K :=
 call_tell hX (fn := Tryd.f23) (c := bodyOf Tryd.f23) (by kernel_rfl) (by kernel_rfl) (A := Z29.a) (u := Z29.u) (fun _ _ h => h) (call := D5) (lp := fun n => noL) (D5_ok hX) (fun n => noL_ok) (fun n v K => by kernel_rfl)
def D6 (n : Nat) : CallF := orC 23 Z29.a (Z29.u n) (D5 n)
theorem D6_ok : ∀ n g a K, D6 n g a K -> callM C X0 n g a K := fun n => orC_ok (Z29_ok hX n) (D5_ok hX n)
abbrev Z30.a : List TS := [.c (.o (.dat 62 Y1)), .c (.o (.int .i64))]
def Z30.u (n : Nat) (v : VA Z30.a) (K : RES -> Prop) : Prop := Z30.c n v.1 v.2.1 (fun r0 => K ⟨.c (.int .i64 r0), []⟩)
abbrev Z30.l5.s : ST := ⟨[(0, .c (.o (.dat 62 Y1))), (1, .c (.o (.int .i64))), (5, .c (.o (.int .i64)))], [], [], [], []⟩
def Z30.l5.u (n : Nat) (v : Z30.l5.s.V) (K : X -> St -> Prop) : Prop := Z30.l5 n v.1.1 v.1.2.1 v.1.2.2.1 (fun y0 => K (.exit 0) ⟨[(1, .c (.int .i64 y0))], [], [], [], []⟩) (fun y0 => K .ret ⟨[(4, .c (.int .i64 y0))], [], [], [], []⟩)
theorem Z30.l5_ok : ∀ n v K, Z30.l5.u n v K -> loopM C X0 n 13 5 (Z30.l5.s.fill v) K :=
 loop_tell hX (fn := Tryd.f13) (c := bodyOf Tryd.f13) (a := loopOf Tryd.f13 5) (li := liOf (C.fi 13).loops 5) (by kernel_rfl) (by kernel_rfl) (of_decide_eq_true rfl) (by kernel_rfl) (by kernel_rfl) (T := Z30.l5.s) (u := Z30.l5.u) (fun _ _ h => h) (call := D6) (lp := fun n => noL) (D6_ok hX) (fun n => noL_ok) (fun n v K => by kernel_rfl)
theorem Z30_ok : ∀ n v K, Z30.u n v K -> callM C X0 n 13 (fillA Z30.a v) K :=
 call_tell hX (fn := Tryd.f13) (c := bodyOf Tryd.f13) (by kernel_rfl) (by kernel_rfl) (A := Z30.a) (u := Z30.u) (fun _ _ h => h) (call := D6) (lp := fun n => orL 5 Z30.l5.s (Z30.l5.u n) noL) (D6_ok hX) (fun n => (orL_ok (Z30.l5_ok hX n) noL_ok)) (fun n v K => by kernel_rfl)
def D7 (n : Nat) : CallF := orC 13 Z30.a (Z30.u n) (D6 n)
theorem D7_ok : ∀ n g a K, D7 n g a K -> callM C X0 n g a K := fun n => orC_ok (Z30_ok hX n) (D6_ok hX n)
abbrev Z31.a : List TS := [.a [.o (.dat 62 Y1)], .c (.o (.int .i64))]
def Z31.u (n : Nat) (v : VA Z31.a) (K : RES -> Prop) : Prop := Z31.c n v.1.1 v.2.1 (fun r0 => K ⟨.c (.int .i64 r0), []⟩)
theorem Z31_ok : ∀ n v K, Z31.u n v K -> callM C X0 n 5 (fillA Z31.a v) K :=
 call_tell hX (fn := Tryd.f5) (c := bodyOf Tryd.f5) (by kernel_rfl) (by kernel_rfl) (A := Z31.a) (u := Z31.u) (fun _ _ h => h) (call := D7) (lp := fun n => noL) (D7_ok hX) (fun n => noL_ok) (fun n v K => by kernel_rfl)
def D8 (n : Nat) : CallF := orC 5 Z31.a (Z31.u n) (D7 n)
theorem D8_ok : ∀ n g a K, D8 n g a K -> callM C X0 n g a K := fun n => orC_ok (Z31_ok hX n) (D7_ok hX n)
abbrev Z34.a : List TS := [.a [.o .str, .o (.int .i64)]]
def Z34.u (n : Nat) (v : VA Z34.a) (K : RES -> Prop) : Prop := Z34.c n v.1.1 v.1.2.1 (fun r0 r1 => K ⟨.agg [.str r0, .int .i64 r1], []⟩)
theorem Z34_ok : ∀ n v K, Z34.u n v K -> callM C X0 n 17 (fillA Z34.a v) K :=
 call_tell hX (fn := Tryd.f17) (c := bodyOf Tryd.f17) (by kernel_rfl) (by kernel_rfl) (A := Z34.a) (u := Z34.u) (fun _ _ h => h) (call := D8) (lp := fun n => noL) (D8_ok hX) (fun n => noL_ok) (fun n v K => by kernel_rfl)
def D9 (n : Nat) : CallF := orC 17 Z34.a (Z34.u n) (D8 n)
theorem D9_ok : ∀ n g a K, D9 n g a K -> callM C X0 n g a K := fun n => orC_ok (Z34_ok hX n) (D8_ok hX n)
abbrev Z35.a : List TS := [.c (.o (.dat 40 Y5))]
def Z35.u (n : Nat) (v : VA Z35.a) (K : RES -> Prop) : Prop := Z35.c n v.1 (fun r0 => K ⟨.c (.row ⟨46, .prod .str (.int .i64), r0, 99, none⟩), []⟩)
abbrev Z35.l3.s : ST := ⟨[(0, .c (.o (.dat 40 Y5))), (3, .c (.o (.own 224))), (4, .c (.o (.int .i64)))], [⟨224, 46, .prod .str (.int .i64), 99⟩], [], [], []⟩
def Z35.l3.u (n : Nat) (v : Z35.l3.s.V) (K : X -> St -> Prop) : Prop := Z35.l3 n v.1.1 v.1.2.2.1 v.2.1.1 (fun y0 => K (.exit 0) ⟨[(3, .c (.own 224))], [(224, ⟨46, .prod .str (.int .i64), y0, 99, none⟩)], [], [], []⟩)
theorem Z35.l3_ok : ∀ n v K, Z35.l3.u n v K -> loopM C X0 n 7 3 (Z35.l3.s.fill v) K :=
 loop_tell hX (fn := Tryd.f7) (c := bodyOf Tryd.f7) (a := loopOf Tryd.f7 3) (li := liOf (C.fi 7).loops 3) (by kernel_rfl) (by kernel_rfl) (of_decide_eq_true rfl) (by kernel_rfl) (by kernel_rfl) (T := Z35.l3.s) (u := Z35.l3.u) (fun _ _ h => h) (call := D9) (lp := fun n => noL) (D9_ok hX) (fun n => noL_ok) (fun n v K => by kernel_rfl)
theorem Z35_ok : ∀ n v K, Z35.u n v K -> callM C X0 n 7 (fillA Z35.a v) K :=
 call_tell hX (fn := Tryd.f7) (c := bodyOf Tryd.f7) (by kernel_rfl) (by kernel_rfl) (A := Z35.a) (u := Z35.u) (fun _ _ h => h) (call := D9) (lp := fun n => orL 3 Z35.l3.s (Z35.l3.u n) noL) (D9_ok hX) (fun n => (orL_ok (Z35.l3_ok hX n) noL_ok)) (fun n v K => by kernel_rfl)
def D10 (n : Nat) : CallF := orC 7 Z35.a (Z35.u n) (D9 n)
theorem D10_ok : ∀ n g a K, D10 n g a K -> callM C X0 n g a K := fun n => orC_ok (Z35_ok hX n) (D9_ok hX n)
abbrev Z40.a : List TS := [.c (.o (.dat 87 (.int .u64)))]
def Z40.u (n : Nat) (v : VA Z40.a) (K : RES -> Prop) : Prop := Z40.c n v.1 (fun r0 => K ⟨.c (.row ⟨87, .int .u64, r0, 99, none⟩), []⟩)
abbrev Z40.l3.s : ST := ⟨[(0, .c (.o (.dat 87 (.int .u64)))), (3, .c (.o (.own 224))), (4, .c (.o (.int .i64)))], [⟨224, 87, .int .u64, 99⟩], [], [], []⟩
def Z40.l3.u (n : Nat) (v : Z40.l3.s.V) (K : X -> St -> Prop) : Prop := Z40.l3 n v.1.1 v.1.2.2.1 v.2.1.1 (fun y0 => K (.exit 0) ⟨[(3, .c (.own 224))], [(224, ⟨87, .int .u64, y0, 99, none⟩)], [], [], []⟩)
theorem Z40.l3_ok : ∀ n v K, Z40.l3.u n v K -> loopM C X0 n 65 3 (Z40.l3.s.fill v) K :=
 loop_tell hX (fn := Tryd.f65) (c := bodyOf Tryd.f65) (a := loopOf Tryd.f65 3) (li := liOf (C.fi 65).loops 3) (by kernel_rfl) (by kernel_rfl) (of_decide_eq_true rfl) (by kernel_rfl) (by kernel_rfl) (T := Z40.l3.s) (u := Z40.l3.u) (fun _ _ h => h) (call := D10) (lp := fun n => noL) (D10_ok hX) (fun n => noL_ok) (fun n v K => by kernel_rfl)
theorem Z40_ok : ∀ n v K, Z40.u n v K -> callM C X0 n 65 (fillA Z40.a v) K :=
 call_tell hX (fn := Tryd.f65) (c := bodyOf Tryd.f65) (by kernel_rfl) (by kernel_rfl) (A := Z40.a) (u := Z40.u) (fun _ _ h => h) (call := D10) (lp := fun n => orL 3 Z40.l3.s (Z40.l3.u n) noL) (D10_ok hX) (fun n => (orL_ok (Z40.l3_ok hX n) noL_ok)) (fun n v K => by kernel_rfl)
def D11 (n : Nat) : CallF := orC 65 Z40.a (Z40.u n) (D10 n)
theorem D11_ok : ∀ n g a K, D11 n g a K -> callM C X0 n g a K := fun n => orC_ok (Z40_ok hX n) (D10_ok hX n)
abbrev Z33.a : List TS := [.a [.o (.int .i64), .o (.dat 87 (.int .u64))]]
def Z33.u (n : Nat) (v : VA Z33.a) (K : RES -> Prop) : Prop := Z33.c n v.1.1 v.1.2.1 (fun r0 r1 => K ⟨.agg [.int .i64 r0, .row ⟨87, .int .u64, r1, 99, none⟩], []⟩)
theorem Z33_ok : ∀ n v K, Z33.u n v K -> callM C X0 n 47 (fillA Z33.a v) K :=
 call_tell hX (fn := Tryd.f47) (c := bodyOf Tryd.f47) (by kernel_rfl) (by kernel_rfl) (A := Z33.a) (u := Z33.u) (fun _ _ h => h) (call := D11) (lp := fun n => noL) (D11_ok hX) (fun n => noL_ok) (fun n v K => by kernel_rfl)
def D12 (n : Nat) : CallF := orC 47 Z33.a (Z33.u n) (D11 n)
theorem D12_ok : ∀ n g a K, D12 n g a K -> callM C X0 n g a K := fun n => orC_ok (Z33_ok hX n) (D11_ok hX n)
abbrev Z36.a : List TS := [.c (.o (.dat 2 (.int .i64)))]
def Z36.u (n : Nat) (v : VA Z36.a) (K : RES -> Prop) : Prop := Z36.c n v.1 (fun r0 => K ⟨.c (.row ⟨2, .int .i64, r0, 99, none⟩), []⟩)
abbrev Z36.l3.s : ST := ⟨[(0, .c (.o (.dat 2 (.int .i64)))), (3, .c (.o (.own 224))), (4, .c (.o (.int .i64)))], [⟨224, 2, .int .i64, 99⟩], [], [], []⟩
def Z36.l3.u (n : Nat) (v : Z36.l3.s.V) (K : X -> St -> Prop) : Prop := Z36.l3 n v.1.1 v.1.2.2.1 v.2.1.1 (fun y0 => K (.exit 0) ⟨[(3, .c (.own 224))], [(224, ⟨2, .int .i64, y0, 99, none⟩)], [], [], []⟩)
theorem Z36.l3_ok : ∀ n v K, Z36.l3.u n v K -> loopM C X0 n 48 3 (Z36.l3.s.fill v) K :=
 loop_tell hX (fn := Tryd.f48) (c := bodyOf Tryd.f48) (a := loopOf Tryd.f48 3) (li := liOf (C.fi 48).loops 3) (by kernel_rfl) (by kernel_rfl) (of_decide_eq_true rfl) (by kernel_rfl) (by kernel_rfl) (T := Z36.l3.s) (u := Z36.l3.u) (fun _ _ h => h) (call := D12) (lp := fun n => noL) (D12_ok hX) (fun n => noL_ok) (fun n v K => by kernel_rfl)
theorem Z36_ok : ∀ n v K, Z36.u n v K -> callM C X0 n 48 (fillA Z36.a v) K :=
 call_tell hX (fn := Tryd.f48) (c := bodyOf Tryd.f48) (by kernel_rfl) (by kernel_rfl) (A := Z36.a) (u := Z36.u) (fun _ _ h => h) (call := D12) (lp := fun n => orL 3 Z36.l3.s (Z36.l3.u n) noL) (D12_ok hX) (fun n => (orL_ok (Z36.l3_ok hX n) noL_ok)) (fun n v K => by kernel_rfl)
def D13 (n : Nat) : CallF := orC 48 Z36.a (Z36.u n) (D12 n)
theorem D13_ok : ∀ n g a K, D13 n g a K -> callM C X0 n g a K := fun n => orC_ok (Z36_ok hX n) (D12_ok hX n)
abbrev Z37.a : List TS := [.a [.o (.int .i64), .o (.int .i64), .o (.int .i64), .o (.int .i64), .o (.int .i64), .o (.dat 87 (.int .u64)), .o (.dat 2 (.int .i64))]]
def Z37.u (n : Nat) (v : VA Z37.a) (K : RES -> Prop) : Prop := Z37.c n v.1.1 v.1.2.1 v.1.2.2.1 v.1.2.2.2.1 v.1.2.2.2.2.1 v.1.2.2.2.2.2.1 v.1.2.2.2.2.2.2.1 (fun r0 r1 r2 r3 r4 r5 r6 => K ⟨.agg [.int .i64 r0, .int .i64 r1, .int .i64 r2, .int .i64 r3, .int .i64 r4, .row ⟨87, .int .u64, r5, 99, none⟩, .row ⟨2, .int .i64, r6, 99, none⟩], []⟩)
theorem Z37_ok : ∀ n v K, Z37.u n v K -> callM C X0 n 29 (fillA Z37.a v) K :=
 call_tell hX (fn := Tryd.f29) (c := bodyOf Tryd.f29) (by kernel_rfl) (by kernel_rfl) (A := Z37.a) (u := Z37.u) (fun _ _ h => h) (call := D13) (lp := fun n => noL) (D13_ok hX) (fun n => noL_ok) (fun n v K => by kernel_rfl)
def D14 (n : Nat) : CallF := orC 29 Z37.a (Z37.u n) (D13 n)
theorem D14_ok : ∀ n g a K, D14 n g a K -> callM C X0 n g a K := fun n => orC_ok (Z37_ok hX n) (D13_ok hX n)
abbrev Z38.a : List TS := [.c (.o (.dat 62 Y1))]
def Z38.u (n : Nat) (v : VA Z38.a) (K : RES -> Prop) : Prop := Z38.c n v.1 (fun r0 => K ⟨.c (.row ⟨55, .prod (.int .i64) Y2, r0, 99, none⟩), []⟩)
abbrev Z38.l3.s : ST := ⟨[(0, .c (.o (.dat 62 Y1))), (3, .c (.o (.own 224))), (4, .c (.o (.int .i64)))], [⟨224, 55, .prod (.int .i64) Y2, 99⟩], [], [], []⟩
def Z38.l3.u (n : Nat) (v : Z38.l3.s.V) (K : X -> St -> Prop) : Prop := Z38.l3 n v.1.1 v.1.2.2.1 v.2.1.1 (fun y0 => K (.exit 0) ⟨[(3, .c (.own 224))], [(224, ⟨55, .prod (.int .i64) Y2, y0, 99, none⟩)], [], [], []⟩)
theorem Z38.l3_ok : ∀ n v K, Z38.l3.u n v K -> loopM C X0 n 18 3 (Z38.l3.s.fill v) K :=
 loop_tell hX (fn := Tryd.f18) (c := bodyOf Tryd.f18) (a := loopOf Tryd.f18 3) (li := liOf (C.fi 18).loops 3) (by kernel_rfl) (by kernel_rfl) (of_decide_eq_true rfl) (by kernel_rfl) (by kernel_rfl) (T := Z38.l3.s) (u := Z38.l3.u) (fun _ _ h => h) (call := D14) (lp := fun n => noL) (D14_ok hX) (fun n => noL_ok) (fun n v K => by kernel_rfl)
theorem Z38_ok : ∀ n v K, Z38.u n v K -> callM C X0 n 18 (fillA Z38.a v) K :=
 call_tell hX (fn := Tryd.f18) (c := bodyOf Tryd.f18) (by kernel_rfl) (by kernel_rfl) (A := Z38.a) (u := Z38.u) (fun _ _ h => h) (call := D14) (lp := fun n => orL 3 Z38.l3.s (Z38.l3.u n) noL) (D14_ok hX) (fun n => (orL_ok (Z38.l3_ok hX n) noL_ok)) (fun n v K => by kernel_rfl)
def D15 (n : Nat) : CallF := orC 18 Z38.a (Z38.u n) (D14 n)
theorem D15_ok : ∀ n g a K, D15 n g a K -> callM C X0 n g a K := fun n => orC_ok (Z38_ok hX n) (D14_ok hX n)
abbrev Z39.a : List TS := [.a [.o (.dat 62 Y1)]]
def Z39.u (n : Nat) (v : VA Z39.a) (K : RES -> Prop) : Prop := Z39.c n v.1.1 (fun r0 => K ⟨.agg [.row ⟨55, .prod (.int .i64) Y2, r0, 99, none⟩], []⟩)
theorem Z39_ok : ∀ n v K, Z39.u n v K -> callM C X0 n 8 (fillA Z39.a v) K :=
 call_tell hX (fn := Tryd.f8) (c := bodyOf Tryd.f8) (by kernel_rfl) (by kernel_rfl) (A := Z39.a) (u := Z39.u) (fun _ _ h => h) (call := D15) (lp := fun n => noL) (D15_ok hX) (fun n => noL_ok) (fun n v K => by kernel_rfl)
def D16 (n : Nat) : CallF := orC 8 Z39.a (Z39.u n) (D15 n)
theorem D16_ok : ∀ n g a K, D16 n g a K -> callM C X0 n g a K := fun n => orC_ok (Z39_ok hX n) (D15_ok hX n)
abbrev Z51.a : List TS := [.c (.o (.int .u8))]
def Z51.u (n : Nat) (v : VA Z51.a) (K : RES -> Prop) : Prop := Z51.c n v.1 (fun r0 => K ⟨.c (.bool r0), []⟩)
theorem Z51_ok : ∀ n v K, Z51.u n v K -> callM C X0 n 79 (fillA Z51.a v) K :=
 call_tell hX (fn := Tryd.f79) (c := bodyOf Tryd.f79) (by kernel_rfl) (by kernel_rfl) (A := Z51.a) (u := Z51.u) (fun _ _ h => h) (call := D16) (lp := fun n => noL) (D16_ok hX) (fun n => noL_ok) (fun n v K => by kernel_rfl)
def D17 (n : Nat) : CallF := orC 79 Z51.a (Z51.u n) (D16 n)
theorem D17_ok : ∀ n g a K, D17 n g a K -> callM C X0 n g a K := fun n => orC_ok (Z51_ok hX n) (D16_ok hX n)
abbrev Z54.a : List TS := [.c (.o .str)]
def Z54.u (n : Nat) (v : VA Z54.a) (K : RES -> Prop) : Prop := Z54.c n v.1 (fun r0 => K ⟨.c (.bool r0), []⟩)
abbrev Z54.l4.s : ST := ⟨[(0, .c (.o .str)), (3, .c (.o (.int .i64)))], [], [], [], []⟩
def Z54.l4.u (n : Nat) (v : Z54.l4.s.V) (K : X -> St -> Prop) : Prop := Z54.l4 n v.1.1 v.1.2.1 (K (.exit 0) ⟨[], [], [], [], []⟩) (fun y0 => K .ret ⟨[(2, .c (.bool y0))], [], [], [], []⟩)
theorem Z54.l4_ok : ∀ n v K, Z54.l4.u n v K -> loopM C X0 n 61 4 (Z54.l4.s.fill v) K :=
 loop_tell hX (fn := Tryd.f61) (c := bodyOf Tryd.f61) (a := loopOf Tryd.f61 4) (li := liOf (C.fi 61).loops 4) (by kernel_rfl) (by kernel_rfl) (of_decide_eq_true rfl) (by kernel_rfl) (by kernel_rfl) (T := Z54.l4.s) (u := Z54.l4.u) (fun _ _ h => h) (call := D17) (lp := fun n => noL) (D17_ok hX) (fun n => noL_ok) (fun n v K => by kernel_rfl)
theorem Z54_ok : ∀ n v K, Z54.u n v K -> callM C X0 n 61 (fillA Z54.a v) K :=
 call_tell hX (fn := Tryd.f61) (c := bodyOf Tryd.f61) (by kernel_rfl) (by kernel_rfl) (A := Z54.a) (u := Z54.u) (fun _ _ h => h) (call := D17) (lp := fun n => orL 4 Z54.l4.s (Z54.l4.u n) noL) (D17_ok hX) (fun n => (orL_ok (Z54.l4_ok hX n) noL_ok)) (fun n v K => by kernel_rfl)
def D18 (n : Nat) : CallF := orC 61 Z54.a (Z54.u n) (D17 n)
theorem D18_ok : ∀ n g a K, D18 n g a K -> callM C X0 n g a K := fun n => orC_ok (Z54_ok hX n) (D17_ok hX n)
abbrev Z52.a : List TS := [.c (.o (.int .i64)), .c (.o (.int .i64)), .c (.o (.int .i64))]
def Z52.u (n : Nat) (v : VA Z52.a) (K : RES -> Prop) : Prop := Z52.c n v.1 v.2.1 v.2.2.1 (fun r0 => K ⟨.c (.bool r0), []⟩)
theorem Z52_ok : ∀ n v K, Z52.u n v K -> callM C X0 n 43 (fillA Z52.a v) K :=
 call_tell hX (fn := Tryd.f43) (c := bodyOf Tryd.f43) (by kernel_rfl) (by kernel_rfl) (A := Z52.a) (u := Z52.u) (fun _ _ h => h) (call := D18) (lp := fun n => noL) (D18_ok hX) (fun n => noL_ok) (fun n v K => by kernel_rfl)
def D19 (n : Nat) : CallF := orC 43 Z52.a (Z52.u n) (D18 n)
theorem D19_ok : ∀ n g a K, D19 n g a K -> callM C X0 n g a K := fun n => orC_ok (Z52_ok hX n) (D18_ok hX n)
abbrev Z45.a : List TS := [.c (.o (.dat 46 Y5))]
def Z45.u (n : Nat) (v : VA Z45.a) (K : RES -> Prop) : Prop := Z45.c n v.1 (fun r0 => K ⟨.c (.bool r0), []⟩)
abbrev Z45.l10.s : ST := ⟨[(0, .c (.o (.dat 46 Y5))), (3, .c (.o (.int .i64))), (4, .c (.o (.int .i64))), (5, .c (.o (.int .i64)))], [], [], [], []⟩
def Z45.l10.u (n : Nat) (v : Z45.l10.s.V) (K : X -> St -> Prop) : Prop := Z45.l10 n v.1.1 v.1.2.1 v.1.2.2.1 v.1.2.2.2.1 (fun y0 y1 y2 => K (.exit 2) ⟨[(0, .c (.dat 46 Y5 y0)), (3, .c (.int .i64 y1)), (4, .c (.int .i64 y2))], [], [], [], []⟩) (fun y0 => K .ret ⟨[(2, .c (.bool y0))], [], [], [], []⟩)
abbrev Z45.l5.s : ST := ⟨[(0, .c (.o (.dat 46 Y5))), (3, .c (.o (.int .i64))), (4, .c (.o (.int .i64)))], [], [], [], []⟩
def Z45.l5.u (n : Nat) (v : Z45.l5.s.V) (K : X -> St -> Prop) : Prop := Z45.l5 n v.1.1 v.1.2.1 v.1.2.2.1 (fun y0 => K (.exit 0) ⟨[(3, .c (.int .i64 y0))], [], [], [], []⟩) (fun y0 => K .ret ⟨[(2, .c (.bool y0))], [], [], [], []⟩)
theorem Z45.l10_ok : ∀ n v K, Z45.l10.u n v K -> loopM C X0 n 40 10 (Z45.l10.s.fill v) K :=
 loop_tell hX (fn := Tryd.f40) (c := bodyOf Tryd.f40) (a := loopOf Tryd.f40 10) (li := liOf (C.fi 40).loops 10) (by kernel_rfl) (by kernel_rfl) (of_decide_eq_true rfl) (by kernel_rfl) (by kernel_rfl) (T := Z45.l10.s) (u := Z45.l10.u) (fun _ _ h => h) (call := D19) (lp := fun n => noL) (D19_ok hX) (fun n => noL_ok) (fun n v K => by kernel_rfl)
theorem Z45.l5_ok : ∀ n v K, Z45.l5.u n v K -> loopM C X0 n 40 5 (Z45.l5.s.fill v) K :=
 loop_tell hX (fn := Tryd.f40) (c := bodyOf Tryd.f40) (a := loopOf Tryd.f40 5) (li := liOf (C.fi 40).loops 5) (by kernel_rfl) (by kernel_rfl) (of_decide_eq_true rfl) (by kernel_rfl) (by kernel_rfl) (T := Z45.l5.s) (u := Z45.l5.u) (fun _ _ h => h) (call := D19) (lp := fun n => orL 10 Z45.l10.s (Z45.l10.u n) noL) (D19_ok hX) (fun n => (orL_ok (Z45.l10_ok hX n) noL_ok)) (fun n v K => by kernel_rfl)
theorem Z45_ok : ∀ n v K, Z45.u n v K -> callM C X0 n 40 (fillA Z45.a v) K :=
 call_tell hX (fn := Tryd.f40) (c := bodyOf Tryd.f40) (by kernel_rfl) (by kernel_rfl) (A := Z45.a) (u := Z45.u) (fun _ _ h => h) (call := D19) (lp := fun n => orL 5 Z45.l5.s (Z45.l5.u n) noL) (D19_ok hX) (fun n => (orL_ok (Z45.l5_ok hX n) noL_ok)) (fun n v K => by kernel_rfl)
def D20 (n : Nat) : CallF := orC 40 Z45.a (Z45.u n) (D19 n)
theorem D20_ok : ∀ n g a K, D20 n g a K -> callM C X0 n g a K := fun n => orC_ok (Z45_ok hX n) (D19_ok hX n)
abbrev Z57.a : List TS := [.a [.o (.int .i64), .o (.dat 87 (.int .u64))]]
def Z57.u (n : Nat) (v : VA Z57.a) (K : RES -> Prop) : Prop := Z57.c n v.1.1 v.1.2.1 (fun r0 => K ⟨.c (.bool r0), []⟩)
theorem Z57_ok : ∀ n v K, Z57.u n v K -> callM C X0 n 62 (fillA Z57.a v) K :=
 call_tell hX (fn := Tryd.f62) (c := bodyOf Tryd.f62) (by kernel_rfl) (by kernel_rfl) (A := Z57.a) (u := Z57.u) (fun _ _ h => h) (call := D20) (lp := fun n => noL) (D20_ok hX) (fun n => noL_ok) (fun n v K => by kernel_rfl)
def D21 (n : Nat) : CallF := orC 62 Z57.a (Z57.u n) (D20 n)
theorem D21_ok : ∀ n g a K, D21 n g a K -> callM C X0 n g a K := fun n => orC_ok (Z57_ok hX n) (D20_ok hX n)
abbrev Z58.a : List TS := [.c (.o (.int .i64))]
def Z58.u (n : Nat) (v : VA Z58.a) (K : RES -> Prop) : Prop := Z58.c n v.1 (fun r0 => K ⟨.c (.bool r0), []⟩)
theorem Z58_ok : ∀ n v K, Z58.u n v K -> callM C X0 n 63 (fillA Z58.a v) K :=
 call_tell hX (fn := Tryd.f63) (c := bodyOf Tryd.f63) (by kernel_rfl) (by kernel_rfl) (A := Z58.a) (u := Z58.u) (fun _ _ h => h) (call := D21) (lp := fun n => noL) (D21_ok hX) (fun n => noL_ok) (fun n v K => by kernel_rfl)
def D22 (n : Nat) : CallF := orC 63 Z58.a (Z58.u n) (D21 n)
theorem D22_ok : ∀ n g a K, D22 n g a K -> callM C X0 n g a K := fun n => orC_ok (Z58_ok hX n) (D21_ok hX n)
abbrev Z49.a : List TS := [.a [.o (.int .i64), .o (.dat 87 (.int .u64))], .c (.o (.int .i64))]
def Z49.u (n : Nat) (v : VA Z49.a) (K : RES -> Prop) : Prop := Z49.c n v.1.1 v.1.2.1 v.2.1 (fun r0 => K ⟨.c (.int .u8 r0), []⟩)
theorem Z49_ok : ∀ n v K, Z49.u n v K -> callM C X0 n 64 (fillA Z49.a v) K :=
 call_tell hX (fn := Tryd.f64) (c := bodyOf Tryd.f64) (by kernel_rfl) (by kernel_rfl) (A := Z49.a) (u := Z49.u) (fun _ _ h => h) (call := D22) (lp := fun n => noL) (D22_ok hX) (fun n => noL_ok) (fun n v K => by kernel_rfl)
def D23 (n : Nat) : CallF := orC 64 Z49.a (Z49.u n) (D22 n)
theorem D23_ok : ∀ n g a K, D23 n g a K -> callM C X0 n g a K := fun n => orC_ok (Z49_ok hX n) (D22_ok hX n)
abbrev Z44.a : List TS := [.a [.o (.int .i64), .o (.dat 87 (.int .u64))]]
def Z44.u (n : Nat) (v : VA Z44.a) (K : RES -> Prop) : Prop := Z44.c n v.1.1 v.1.2.1 (fun r0 => K ⟨.c (.bool r0), []⟩)
abbrev Z44.l4.s : ST := ⟨[(1, .c (.o (.pbox 1 0))), (3, .c (.o (.int .i64)))], [], [⟨1, 53, [.o (.int .i64), .o (.dat 87 (.int .u64))], false⟩], [], []⟩
def Z44.l4.u (n : Nat) (v : Z44.l4.s.V) (K : X -> St -> Prop) : Prop := Z44.l4 n v.2.2.1.1 v.2.2.1.2.1 v.1.2.1 (K (.exit 0) ⟨[], [], [], [], []⟩) (fun y0 => K .ret ⟨[(2, .c (.bool y0))], [], [], [], []⟩)
theorem Z44.l4_ok : ∀ n v K, Z44.l4.u n v K -> loopM C X0 n 44 4 (Z44.l4.s.fill v) K :=
 loop_tell hX (fn := Tryd.f44) (c := bodyOf Tryd.f44) (a := loopOf Tryd.f44 4) (li := liOf (C.fi 44).loops 4) (by kernel_rfl) (by kernel_rfl) (of_decide_eq_true rfl) (by kernel_rfl) (by kernel_rfl) (T := Z44.l4.s) (u := Z44.l4.u) (fun _ _ h => h) (call := D23) (lp := fun n => noL) (D23_ok hX) (fun n => noL_ok) (fun n v K => by kernel_rfl)
theorem Z44_ok : ∀ n v K, Z44.u n v K -> callM C X0 n 44 (fillA Z44.a v) K :=
 call_tell hX (fn := Tryd.f44) (c := bodyOf Tryd.f44) (by kernel_rfl) (by kernel_rfl) (A := Z44.a) (u := Z44.u) (fun _ _ h => h) (call := D23) (lp := fun n => orL 4 Z44.l4.s (Z44.l4.u n) noL) (D23_ok hX) (fun n => (orL_ok (Z44.l4_ok hX n) noL_ok)) (fun n v K => by kernel_rfl)
def D24 (n : Nat) : CallF := orC 44 Z44.a (Z44.u n) (D23 n)
theorem D24_ok : ∀ n g a K, D24 n g a K -> callM C X0 n g a K := fun n => orC_ok (Z44_ok hX n) (D23_ok hX n)
abbrev Z56.a : List TS := [.c (.o (.dat 46 Y5)), .a [.o (.int .i64), .o (.int .i64), .o (.int .i64), .o (.int .i64), .o (.int .i64), .o (.dat 87 (.int .u64)), .o (.dat 2 (.int .i64))], .c (.o (.int .i64))]
def Z56.u (n : Nat) (v : VA Z56.a) (K : RES -> Prop) : Prop := Z56.c n v.1 v.2.1.1 v.2.1.2.1 v.2.1.2.2.1 v.2.1.2.2.2.1 v.2.1.2.2.2.2.1 v.2.1.2.2.2.2.2.1 v.2.1.2.2.2.2.2.2.1 v.2.2.1 (fun r0 => K ⟨.c (.bool r0), []⟩)
abbrev Z56.l2.s : ST := ⟨[(0, .c (.o (.dat 46 Y5))), (2, .c (.o (.int .i64))), (4, .c (.o (.pbox 4 0))), (7, .c (.o (.int .i64)))], [], [⟨4, 55, [.o (.int .i64), .o (.int .i64), .o (.int .i64), .o (.int .i64), .o (.int .i64), .o (.dat 87 (.int .u64)), .o (.dat 2 (.int .i64))], false⟩], [], []⟩
def Z56.l2.u (n : Nat) (v : Z56.l2.s.V) (K : X -> St -> Prop) : Prop := Z56.l2 n v.1.1 v.1.2.1 v.2.2.1.1 v.2.2.1.2.1 v.2.2.1.2.2.1 v.2.2.1.2.2.2.1 v.2.2.1.2.2.2.2.1 v.2.2.1.2.2.2.2.2.1 v.2.2.1.2.2.2.2.2.2.1 v.1.2.2.2.1 (fun y0 y1 y2 y3 y4 y5 y6 y7 => K (.exit 0) ⟨[(0, .c (.dat 46 Y5 y0)), (4, .c (.pbox 4 0))], [], [(4, ⟨55, [.int .i64 y1, .int .i64 y2, .int .i64 y3, .int .i64 y4, .int .i64 y5, .dat 87 (.int .u64) y6, .dat 2 (.int .i64) y7], false⟩)], [], []⟩) (fun y0 => K .ret ⟨[(6, .c (.bool y0))], [], [], [], []⟩)
abbrev Z56.q7.s : ST := ⟨[(0, .c (.o (.dat 46 Y5))), (4, .c (.o (.pbox 4 0))), (63, .c (.o .bool))], [], [⟨4, 55, [.o (.int .i64), .o (.int .i64), .o (.int .i64), .o (.int .i64), .o (.int .i64), .o (.dat 87 (.int .u64)), .o (.dat 2 (.int .i64))], false⟩], [], []⟩
def Z56.q7.u (n : Nat) (v : Z56.q7.s.V) (K : X -> St -> Prop) : Prop := Z56.q7 n v.1.1 v.1.2.2.1 v.2.2.1.1 v.2.2.1.2.1 v.2.2.1.2.2.1 v.2.2.1.2.2.2.1 v.2.2.1.2.2.2.2.1 v.2.2.1.2.2.2.2.2.1 v.2.2.1.2.2.2.2.2.2.1 (fun y0 => K .ret ⟨[(6, .c (.bool y0))], [], [], [], []⟩) (fun y0 y1 y2 y3 y4 y5 y6 y7 => K .normal ⟨[(0, .c (.dat 46 Y5 y0)), (4, .c (.pbox 4 0))], [], [(4, ⟨55, [.int .i64 y1, .int .i64 y2, .int .i64 y3, .int .i64 y4, .int .i64 y5, .dat 87 (.int .u64) y6, .dat 2 (.int .i64) y7], false⟩)], [], []⟩)
abbrev Z56.q8.s : ST := ⟨[(0, .c (.o (.dat 46 Y5))), (4, .c (.o (.pbox 4 0)))], [], [⟨4, 55, [.o (.int .i64), .o (.int .i64), .o (.int .i64), .o (.int .i64), .o (.int .i64), .o (.dat 87 (.int .u64)), .o (.dat 2 (.int .i64))], false⟩], [], []⟩
def Z56.q8.u (n : Nat) (v : Z56.q8.s.V) (K : X -> St -> Prop) : Prop := Z56.q8 n v.1.1 v.2.2.1.1 v.2.2.1.2.1 v.2.2.1.2.2.1 v.2.2.1.2.2.2.1 v.2.2.1.2.2.2.2.1 v.2.2.1.2.2.2.2.2.1 v.2.2.1.2.2.2.2.2.2.1 (fun y0 => K .ret ⟨[(6, .c (.bool y0))], [], [], [], []⟩)
theorem Z56.l2_ok : ∀ n v K, Z56.l2.u n v K -> loopM C X0 n 41 2 (Z56.l2.s.fill v) K :=
 loop_tell hX (fn := Tryd.f41) (c := bodyOf Tryd.f41) (a := loopOf Tryd.f41 2) (li := liOf (C.fi 41).loops 2) (by kernel_rfl) (by kernel_rfl) (of_decide_eq_true rfl) (by kernel_rfl) (by kernel_rfl) (T := Z56.l2.s) (u := Z56.l2.u) (fun _ _ h => h) (call := D24) (lp := fun n => noL) (D24_ok hX) (fun n => noL_ok) (fun n v K => by kernel_rfl)
theorem Z56.q7_ok : ∀ n v K, Z56.q7.u n v K -> loopM C X0 n 41 1000007 (Z56.q7.s.fill v) K :=
 cut_tell hX (fn := Tryd.f41) (c := bodyOf Tryd.f41) (a := cutOf Tryd.f41 7) (li := liOf (C.fi 41).loops 1000007) (by kernel_rfl) (by kernel_rfl) (of_decide_eq_true rfl) (by kernel_rfl) (by kernel_rfl) (T := Z56.q7.s) (u := Z56.q7.u) (fun _ _ h => h) (call := D24) (lp := fun n => noL) (D24_ok hX) (fun n => noL_ok) (fun n v K => by kernel_rfl)
theorem Z56.q8_ok : ∀ n v K, Z56.q8.u n v K -> loopM C X0 n 41 1000008 (Z56.q8.s.fill v) K :=
 cut_tell hX (fn := Tryd.f41) (c := bodyOf Tryd.f41) (a := cutOf Tryd.f41 8) (li := liOf (C.fi 41).loops 1000008) (by kernel_rfl) (by kernel_rfl) (of_decide_eq_true rfl) (by kernel_rfl) (by kernel_rfl) (T := Z56.q8.s) (u := Z56.q8.u) (fun _ _ h => h) (call := D24) (lp := fun n => noL) (D24_ok hX) (fun n => noL_ok) (fun n v K => by kernel_rfl)
theorem Z56_ok : ∀ n v K, Z56.u n v K -> callM C X0 n 41 (fillA Z56.a v) K :=
 call_tell hX (fn := Tryd.f41) (c := bodyOf Tryd.f41) (by kernel_rfl) (by kernel_rfl) (A := Z56.a) (u := Z56.u) (fun _ _ h => h) (call := D24) (lp := fun n => orL 2 Z56.l2.s (Z56.l2.u n) (orL 1000007 Z56.q7.s (Z56.q7.u n) (orL 1000008 Z56.q8.s (Z56.q8.u n) noL))) (D24_ok hX) (fun n => (orL_ok (Z56.l2_ok hX n) (orL_ok (Z56.q7_ok hX n) (orL_ok (Z56.q8_ok hX n) noL_ok)))) (fun n v K => by kernel_rfl)
def D25 (n : Nat) : CallF := orC 41 Z56.a (Z56.u n) (D24 n)
theorem D25_ok : ∀ n g a K, D25 n g a K -> callM C X0 n g a K := fun n => orC_ok (Z56_ok hX n) (D24_ok hX n)
abbrev Z62.a : List TS := [.c (.o (.dat 46 Y5)), .a [.o (.int .i64), .o (.int .i64), .o (.int .i64), .o (.int .i64), .o (.int .i64), .o (.dat 87 (.int .u64)), .o (.dat 2 (.int .i64))], .c (.o (.dat 2 (.int .i64)))]
def Z62.u (n : Nat) (v : VA Z62.a) (K : RES -> Prop) : Prop := Z62.c n v.1 v.2.1.1 v.2.1.2.1 v.2.1.2.2.1 v.2.1.2.2.2.1 v.2.1.2.2.2.2.1 v.2.1.2.2.2.2.2.1 v.2.1.2.2.2.2.2.2.1 v.2.2.1 (fun r0 => K ⟨.c (.int .i64 r0), []⟩)
abbrev Z62.l3.s : ST := ⟨[(0, .c (.o (.dat 46 Y5))), (2, .c (.o (.dat 2 (.int .i64)))), (4, .c (.o (.pbox 4 0))), (7, .c (.o (.int .i64))), (8, .c (.o (.int .i64)))], [], [⟨4, 55, [.o (.int .i64), .o (.int .i64), .o (.int .i64), .o (.int .i64), .o (.int .i64), .o (.dat 87 (.int .u64)), .o (.dat 2 (.int .i64))], false⟩], [], []⟩
def Z62.l3.u (n : Nat) (v : Z62.l3.s.V) (K : X -> St -> Prop) : Prop := Z62.l3 n v.1.1 v.1.2.1 v.2.2.1.1 v.2.2.1.2.1 v.2.2.1.2.2.1 v.2.2.1.2.2.2.1 v.2.2.1.2.2.2.2.1 v.2.2.1.2.2.2.2.2.1 v.2.2.1.2.2.2.2.2.2.1 v.1.2.2.2.1 v.1.2.2.2.2.1 (fun y0 y1 y2 y3 y4 y5 y6 y7 y8 => K (.exit 0) ⟨[(0, .c (.dat 46 Y5 y0)), (4, .c (.pbox 4 0)), (7, .c (.int .i64 y1))], [], [(4, ⟨55, [.int .i64 y2, .int .i64 y3, .int .i64 y4, .int .i64 y5, .int .i64 y6, .dat 87 (.int .u64) y7, .dat 2 (.int .i64) y8], false⟩)], [], []⟩)
theorem Z62.l3_ok : ∀ n v K, Z62.l3.u n v K -> loopM C X0 n 42 3 (Z62.l3.s.fill v) K :=
 loop_tell hX (fn := Tryd.f42) (c := bodyOf Tryd.f42) (a := loopOf Tryd.f42 3) (li := liOf (C.fi 42).loops 3) (by kernel_rfl) (by kernel_rfl) (of_decide_eq_true rfl) (by kernel_rfl) (by kernel_rfl) (T := Z62.l3.s) (u := Z62.l3.u) (fun _ _ h => h) (call := D25) (lp := fun n => noL) (D25_ok hX) (fun n => noL_ok) (fun n v K => by kernel_rfl)
theorem Z62_ok : ∀ n v K, Z62.u n v K -> callM C X0 n 42 (fillA Z62.a v) K :=
 call_tell hX (fn := Tryd.f42) (c := bodyOf Tryd.f42) (by kernel_rfl) (by kernel_rfl) (A := Z62.a) (u := Z62.u) (fun _ _ h => h) (call := D25) (lp := fun n => orL 3 Z62.l3.s (Z62.l3.u n) noL) (D25_ok hX) (fun n => (orL_ok (Z62.l3_ok hX n) noL_ok)) (fun n v K => by kernel_rfl)
def D26 (n : Nat) : CallF := orC 42 Z62.a (Z62.u n) (D25 n)
theorem D26_ok : ∀ n g a K, D26 n g a K -> callM C X0 n g a K := fun n => orC_ok (Z62_ok hX n) (D25_ok hX n)
abbrev Z63.a : List TS := [.c (.o (.dat 46 Y5)), .a [.o (.dat 55 Y1)]]
def Z63.u (n : Nat) (v : VA Z63.a) (K : RES -> Prop) : Prop := Z63.c n v.1 v.2.1.1 (fun r0 => K ⟨.c (.row ⟨2, .int .i64, r0, 99, none⟩), []⟩)
abbrev Z63.l16.s : ST := ⟨[(0, .c (.o (.dat 46 Y5))), (3, .c (.o (.pbox 3 0))), (5, .c (.o (.own 384))), (6, .c (.o (.own 2112))), (7, .c (.o (.own 1056))), (8, .c (.o (.int .i64))), (10, .c (.o (.int .i64)))], [⟨384, 2, .int .i64, 99⟩, ⟨1056, 4, .bool, 99⟩, ⟨2112, 2, .int .i64, 99⟩], [⟨3, 33, [.o (.dat 55 Y1)], false⟩], [], []⟩
def Z63.l16.u (n : Nat) (v : Z63.l16.s.V) (K : X -> St -> Prop) : Prop := Z63.l16 n v.1.1 v.1.2.2.2.2.2.1 v.2.1.1 v.2.1.2.2.1 v.2.2.1.1 v.1.2.2.2.2.2.2.1 v.2.1.2.1 (fun y0 y1 y2 y3 y4 y5 => K (.exit 2) ⟨[(0, .c (.dat 46 Y5 y0)), (3, .c (.pbox 3 0)), (5, .c (.own 384)), (6, .c (.own 2112)), (7, .c (.own 1056)), (8, .c (.int .i64 y1))], [(384, ⟨2, .int .i64, y2, 99, none⟩), (1056, ⟨4, .bool, y3, 99, none⟩), (2112, ⟨2, .int .i64, y4, 99, none⟩)], [(3, ⟨33, [.dat 55 Y1 y5], false⟩)], [], []⟩)
abbrev Z63.l7.s : ST := ⟨[(0, .c (.o (.dat 46 Y5))), (3, .c (.o (.pbox 3 0))), (5, .c (.o (.own 384))), (6, .c (.o (.own 192))), (7, .c (.o (.own 1056))), (8, .c (.o (.int .i64)))], [⟨192, 2, .int .i64, 99⟩, ⟨384, 2, .int .i64, 99⟩, ⟨1056, 4, .bool, 99⟩], [⟨3, 33, [.o (.dat 55 Y1)], false⟩], [], []⟩
def Z63.l7.u (n : Nat) (v : Z63.l7.s.V) (K : X -> St -> Prop) : Prop := Z63.l7 n v.1.1 v.1.2.2.2.2.2.1 v.2.1.1 v.2.1.2.1 v.2.1.2.2.1 v.2.2.1.1 (fun y0 y1 y2 => K (.exit 0) ⟨[(5, .c (.own 384)), (6, .c (.own 192)), (7, .c (.own 1056))], [(192, ⟨2, .int .i64, y0, 99, none⟩), (384, ⟨2, .int .i64, y1, 99, none⟩), (1056, ⟨4, .bool, y2, 99, none⟩)], [], [], []⟩) (fun y0 => K .ret ⟨[(4, .c (.own 384))], [(384, ⟨2, .int .i64, y0, 99, none⟩)], [], [], []⟩)
abbrev Z63.l20.s : ST := ⟨[(5, .c (.o (.own 384))), (6, .c (.o (.own 192))), (7, .c (.o (.own 1056))), (11, .c (.o (.int .i64)))], [⟨192, 2, .int .i64, 99⟩, ⟨384, 2, .int .i64, 99⟩, ⟨1056, 4, .bool, 99⟩], [], [], []⟩
def Z63.l20.u (n : Nat) (v : Z63.l20.s.V) (K : X -> St -> Prop) : Prop := Z63.l20 n v.2.1.1 v.2.1.2.1 v.2.1.2.2.1 v.1.2.2.2.1 (fun y0 => K (.exit 4) ⟨[(6, .c (.own 192))], [(192, ⟨2, .int .i64, y0, 99, none⟩)], [], [], []⟩) (fun y0 => K .ret ⟨[(4, .c (.own 384))], [(384, ⟨2, .int .i64, y0, 99, none⟩)], [], [], []⟩)
theorem Z63.l16_ok : ∀ n v K, Z63.l16.u n v K -> loopM C X0 n 24 16 (Z63.l16.s.fill v) K :=
 loop_tell hX (fn := Tryd.f24) (c := bodyOf Tryd.f24) (a := loopOf Tryd.f24 16) (li := liOf (C.fi 24).loops 16) (by kernel_rfl) (by kernel_rfl) (of_decide_eq_true rfl) (by kernel_rfl) (by kernel_rfl) (T := Z63.l16.s) (u := Z63.l16.u) (fun _ _ h => h) (call := D26) (lp := fun n => noL) (D26_ok hX) (fun n => noL_ok) (fun n v K => by kernel_rfl)
theorem Z63.l7_ok : ∀ n v K, Z63.l7.u n v K -> loopM C X0 n 24 7 (Z63.l7.s.fill v) K :=
 loop_tell hX (fn := Tryd.f24) (c := bodyOf Tryd.f24) (a := loopOf Tryd.f24 7) (li := liOf (C.fi 24).loops 7) (by kernel_rfl) (by kernel_rfl) (of_decide_eq_true rfl) (by kernel_rfl) (by kernel_rfl) (T := Z63.l7.s) (u := Z63.l7.u) (fun _ _ h => h) (call := D26) (lp := fun n => orL 16 Z63.l16.s (Z63.l16.u n) noL) (D26_ok hX) (fun n => (orL_ok (Z63.l16_ok hX n) noL_ok)) (fun n v K => by kernel_rfl)
theorem Z63.l20_ok : ∀ n v K, Z63.l20.u n v K -> loopM C X0 n 24 20 (Z63.l20.s.fill v) K :=
 loop_tell hX (fn := Tryd.f24) (c := bodyOf Tryd.f24) (a := loopOf Tryd.f24 20) (li := liOf (C.fi 24).loops 20) (by kernel_rfl) (by kernel_rfl) (of_decide_eq_true rfl) (by kernel_rfl) (by kernel_rfl) (T := Z63.l20.s) (u := Z63.l20.u) (fun _ _ h => h) (call := D26) (lp := fun n => noL) (D26_ok hX) (fun n => noL_ok) (fun n v K => by kernel_rfl)
theorem Z63_ok : ∀ n v K, Z63.u n v K -> callM C X0 n 24 (fillA Z63.a v) K :=
 call_tell hX (fn := Tryd.f24) (c := bodyOf Tryd.f24) (by kernel_rfl) (by kernel_rfl) (A := Z63.a) (u := Z63.u) (fun _ _ h => h) (call := D26) (lp := fun n => orL 7 Z63.l7.s (Z63.l7.u n) (orL 20 Z63.l20.s (Z63.l20.u n) noL)) (D26_ok hX) (fun n => (orL_ok (Z63.l7_ok hX n) (orL_ok (Z63.l20_ok hX n) noL_ok))) (fun n v K => by kernel_rfl)
def D27 (n : Nat) : CallF := orC 24 Z63.a (Z63.u n) (D26 n)
theorem D27_ok : ∀ n g a K, D27 n g a K -> callM C X0 n g a K := fun n => orC_ok (Z63_ok hX n) (D26_ok hX n)
abbrev Z46.a : List TS := [.c (.o (.dat 46 Y5)), .a [.o (.dat 55 Y1)]]
def Z46.u (n : Nat) (v : VA Z46.a) (K : RES -> Prop) : Prop := Z46.c n v.1 v.2.1.1 (fun r0 => K ⟨.c (.int .i64 r0), []⟩)
theorem Z46_ok : ∀ n v K, Z46.u n v K -> callM C X0 n 14 (fillA Z46.a v) K :=
 call_tell hX (fn := Tryd.f14) (c := bodyOf Tryd.f14) (by kernel_rfl) (by kernel_rfl) (A := Z46.a) (u := Z46.u) (fun _ _ h => h) (call := D27) (lp := fun n => noL) (D27_ok hX) (fun n => noL_ok) (fun n v K => by kernel_rfl)
def D28 (n : Nat) : CallF := orC 14 Z46.a (Z46.u n) (D27 n)
theorem D28_ok : ∀ n g a K, D28 n g a K -> callM C X0 n g a K := fun n => orC_ok (Z46_ok hX n) (D27_ok hX n)
abbrev Z53.a : List TS := [.a [.o (.int .i64), .o (.dat 87 (.int .u64))]]
def Z53.u (n : Nat) (v : VA Z53.a) (K : RES -> Prop) : Prop := Z53.c n v.1.1 v.1.2.1 (fun r0 => K ⟨.c (.row ⟨5, .int .u8, r0, 99, none⟩), []⟩)
abbrev Z53.l3.s : ST := ⟨[(1, .c (.o (.pbox 1 0))), (3, .c (.o (.own 96))), (4, .c (.o (.int .i64)))], [⟨96, 5, .int .u8, 99⟩], [⟨1, 53, [.o (.int .i64), .o (.dat 87 (.int .u64))], false⟩], [], []⟩
def Z53.l3.u (n : Nat) (v : Z53.l3.s.V) (K : X -> St -> Prop) : Prop := Z53.l3 n v.2.2.1.1 v.2.2.1.2.1 v.1.2.2.1 v.2.1.1 (fun y0 => K (.exit 0) ⟨[(3, .c (.own 96))], [(96, ⟨5, .int .u8, y0, 99, none⟩)], [], [], []⟩)
theorem Z53.l3_ok : ∀ n v K, Z53.l3.u n v K -> loopM C X0 n 46 3 (Z53.l3.s.fill v) K :=
 loop_tell hX (fn := Tryd.f46) (c := bodyOf Tryd.f46) (a := loopOf Tryd.f46 3) (li := liOf (C.fi 46).loops 3) (by kernel_rfl) (by kernel_rfl) (of_decide_eq_true rfl) (by kernel_rfl) (by kernel_rfl) (T := Z53.l3.s) (u := Z53.l3.u) (fun _ _ h => h) (call := D28) (lp := fun n => noL) (D28_ok hX) (fun n => noL_ok) (fun n v K => by kernel_rfl)
theorem Z53_ok : ∀ n v K, Z53.u n v K -> callM C X0 n 46 (fillA Z53.a v) K :=
 call_tell hX (fn := Tryd.f46) (c := bodyOf Tryd.f46) (by kernel_rfl) (by kernel_rfl) (A := Z53.a) (u := Z53.u) (fun _ _ h => h) (call := D28) (lp := fun n => orL 3 Z53.l3.s (Z53.l3.u n) noL) (D28_ok hX) (fun n => (orL_ok (Z53.l3_ok hX n) noL_ok)) (fun n v K => by kernel_rfl)
def D29 (n : Nat) : CallF := orC 46 Z53.a (Z53.u n) (D28 n)
theorem D29_ok : ∀ n g a K, D29 n g a K -> callM C X0 n g a K := fun n => orC_ok (Z53_ok hX n) (D28_ok hX n)
abbrev Z55.a : List TS := [.c (.o (.dat 5 (.int .u8)))]
def Z55.u (n : Nat) (v : VA Z55.a) (K : RES -> Prop) : Prop := Z55.c n v.1 (fun r0 => K ⟨.c (.row ⟨5, .int .u8, r0, 99, none⟩), []⟩)
abbrev Z55.l3.s : ST := ⟨[(0, .c (.o (.dat 5 (.int .u8)))), (3, .c (.o (.own 96))), (4, .c (.o (.int .i64)))], [⟨96, 5, .int .u8, 99⟩], [], [], []⟩
def Z55.l3.u (n : Nat) (v : Z55.l3.s.V) (K : X -> St -> Prop) : Prop := Z55.l3 n v.1.1 v.1.2.2.1 v.2.1.1 (fun y0 => K (.exit 0) ⟨[(3, .c (.own 96))], [(96, ⟨5, .int .u8, y0, 99, none⟩)], [], [], []⟩)
theorem Z55.l3_ok : ∀ n v K, Z55.l3.u n v K -> loopM C X0 n 45 3 (Z55.l3.s.fill v) K :=
 loop_tell hX (fn := Tryd.f45) (c := bodyOf Tryd.f45) (a := loopOf Tryd.f45 3) (li := liOf (C.fi 45).loops 3) (by kernel_rfl) (by kernel_rfl) (of_decide_eq_true rfl) (by kernel_rfl) (by kernel_rfl) (T := Z55.l3.s) (u := Z55.l3.u) (fun _ _ h => h) (call := D29) (lp := fun n => noL) (D29_ok hX) (fun n => noL_ok) (fun n v K => by kernel_rfl)
theorem Z55_ok : ∀ n v K, Z55.u n v K -> callM C X0 n 45 (fillA Z55.a v) K :=
 call_tell hX (fn := Tryd.f45) (c := bodyOf Tryd.f45) (by kernel_rfl) (by kernel_rfl) (A := Z55.a) (u := Z55.u) (fun _ _ h => h) (call := D29) (lp := fun n => orL 3 Z55.l3.s (Z55.l3.u n) noL) (D29_ok hX) (fun n => (orL_ok (Z55.l3_ok hX n) noL_ok)) (fun n v K => by kernel_rfl)
def D30 (n : Nat) : CallF := orC 45 Z55.a (Z55.u n) (D29 n)
theorem D30_ok : ∀ n g a K, D30 n g a K -> callM C X0 n g a K := fun n => orC_ok (Z55_ok hX n) (D29_ok hX n)
abbrev Z47.a : List TS := [.a [.o (.int .i64), .o (.dat 87 (.int .u64))]]
def Z47.u (n : Nat) (v : VA Z47.a) (K : RES -> Prop) : Prop := Z47.c n v.1.1 v.1.2.1 (fun r0 => K ⟨.c (.str r0), []⟩)
abbrev Z47.l8.s : ST := ⟨[(1, .c (.o (.pbox 1 0))), (3, .c (.o (.own 352))), (4, .c (.o (.own 128))), (5, .c (.o (.int .i64)))], [⟨128, 5, .int .u8, 99⟩, ⟨352, 5, .int .u8, 99⟩], [⟨1, 53, [.o (.int .i64), .o (.dat 87 (.int .u64))], false⟩], [], []⟩
def Z47.l8.u (n : Nat) (v : Z47.l8.s.V) (K : X -> St -> Prop) : Prop := Z47.l8 n v.2.1.2.1 v.2.2.1.1 v.2.2.1.2.1 v.1.2.2.2.1 v.2.1.1 (fun y0 => K (.exit 0) ⟨[(4, .c (.own 128))], [(128, ⟨5, .int .u8, y0, 99, none⟩)], [], [], []⟩)
theorem Z47.l8_ok : ∀ n v K, Z47.l8.u n v K -> loopM C X0 n 25 8 (Z47.l8.s.fill v) K :=
 loop_tell hX (fn := Tryd.f25) (c := bodyOf Tryd.f25) (a := loopOf Tryd.f25 8) (li := liOf (C.fi 25).loops 8) (by kernel_rfl) (by kernel_rfl) (of_decide_eq_true rfl) (by kernel_rfl) (by kernel_rfl) (T := Z47.l8.s) (u := Z47.l8.u) (fun _ _ h => h) (call := D30) (lp := fun n => noL) (D30_ok hX) (fun n => noL_ok) (fun n v K => by kernel_rfl)
theorem Z47_ok : ∀ n v K, Z47.u n v K -> callM C X0 n 25 (fillA Z47.a v) K :=
 call_tell hX (fn := Tryd.f25) (c := bodyOf Tryd.f25) (by kernel_rfl) (by kernel_rfl) (A := Z47.a) (u := Z47.u) (fun _ _ h => h) (call := D30) (lp := fun n => orL 8 Z47.l8.s (Z47.l8.u n) noL) (D30_ok hX) (fun n => (orL_ok (Z47.l8_ok hX n) noL_ok)) (fun n v K => by kernel_rfl)
def D31 (n : Nat) : CallF := orC 25 Z47.a (Z47.u n) (D30 n)
theorem D31_ok : ∀ n g a K, D31 n g a K -> callM C X0 n g a K := fun n => orC_ok (Z47_ok hX n) (D30_ok hX n)
abbrev Z64.a : List TS := [.c (.o (.int .i64))]
def Z64.u (n : Nat) (v : VA Z64.a) (K : RES -> Prop) : Prop := Z64.c n v.1 (fun r0 => K ⟨.c (.str r0), []⟩)
theorem Z64_ok : ∀ n v K, Z64.u n v K -> callM C X0 n 26 (fillA Z64.a v) K :=
 call_tell hX (fn := Tryd.f26) (c := bodyOf Tryd.f26) (by kernel_rfl) (by kernel_rfl) (A := Z64.a) (u := Z64.u) (fun _ _ h => h) (call := D31) (lp := fun n => noL) (D31_ok hX) (fun n => noL_ok) (fun n v K => by kernel_rfl)
def D32 (n : Nat) : CallF := orC 26 Z64.a (Z64.u n) (D31 n)
theorem D32_ok : ∀ n g a K, D32 n g a K -> callM C X0 n g a K := fun n => orC_ok (Z64_ok hX n) (D31_ok hX n)
abbrev Z59.a : List TS := [.c (.o (.int .i64))]
def Z59.u (n : Nat) (v : VA Z59.a) (K : RES -> Prop) : Prop := Z59.c n v.1 (fun r0 => K ⟨.c (.int .i64 r0), []⟩)
theorem Z59_ok : ∀ n v K, Z59.u n v K -> callM C X0 n 27 (fillA Z59.a v) K :=
 call_tell hX (fn := Tryd.f27) (c := bodyOf Tryd.f27) (by kernel_rfl) (by kernel_rfl) (A := Z59.a) (u := Z59.u) (fun _ _ h => h) (call := D32) (lp := fun n => noL) (D32_ok hX) (fun n => noL_ok) (fun n v K => by kernel_rfl)
def D33 (n : Nat) : CallF := orC 27 Z59.a (Z59.u n) (D32 n)
theorem D33_ok : ∀ n g a K, D33 n g a K -> callM C X0 n g a K := fun n => orC_ok (Z59_ok hX n) (D32_ok hX n)
abbrev Z50.a : List TS := [.c (.o (.int .i64))]
def Z50.u (n : Nat) (v : VA Z50.a) (K : RES -> Prop) : Prop := Z50.c n v.1 (fun r0 => K ⟨.c (.str r0), []⟩)
abbrev Z50.l4.s : ST := ⟨[(0, .c (.o (.int .i64))), (3, .c (.o .str))], [], [], [], []⟩
def Z50.l4.u (n : Nat) (v : Z50.l4.s.V) (K : X -> St -> Prop) : Prop := Z50.l4 n v.1.1 v.1.2.1 (fun y0 => K (.exit 0) ⟨[(3, .c (.str y0))], [], [], [], []⟩)
theorem Z50.l4_ok : ∀ n v K, Z50.l4.u n v K -> loopM C X0 n 28 4 (Z50.l4.s.fill v) K :=
 loop_tell hX (fn := Tryd.f28) (c := bodyOf Tryd.f28) (a := loopOf Tryd.f28 4) (li := liOf (C.fi 28).loops 4) (by kernel_rfl) (by kernel_rfl) (of_decide_eq_true rfl) (by kernel_rfl) (by kernel_rfl) (T := Z50.l4.s) (u := Z50.l4.u) (fun _ _ h => h) (call := D33) (lp := fun n => noL) (D33_ok hX) (fun n => noL_ok) (fun n v K => by kernel_rfl)
theorem Z50_ok : ∀ n v K, Z50.u n v K -> callM C X0 n 28 (fillA Z50.a v) K :=
 call_tell hX (fn := Tryd.f28) (c := bodyOf Tryd.f28) (by kernel_rfl) (by kernel_rfl) (A := Z50.a) (u := Z50.u) (fun _ _ h => h) (call := D33) (lp := fun n => orL 4 Z50.l4.s (Z50.l4.u n) noL) (D33_ok hX) (fun n => (orL_ok (Z50.l4_ok hX n) noL_ok)) (fun n v K => by kernel_rfl)
def D34 (n : Nat) : CallF := orC 28 Z50.a (Z50.u n) (D33 n)
theorem D34_ok : ∀ n g a K, D34 n g a K -> callM C X0 n g a K := fun n => orC_ok (Z50_ok hX n) (D33_ok hX n)
abbrev Z60.a : List TS := [.c (.o (.dat 46 Y5)), .a [.o (.dat 55 Y1)]]
def Z60.u (n : Nat) (v : VA Z60.a) (K : RES -> Prop) : Prop := Z60.c n v.1 v.2.1.1 (fun r0 => K ⟨.c (.row ⟨2, .int .i64, r0, 99, none⟩), []⟩)
abbrev Z60.l18.s : ST := ⟨[(0, .c (.o (.dat 46 Y5))), (3, .c (.o (.pbox 3 0))), (5, .c (.o (.own 160))), (6, .c (.o (.int .i64))), (7, .c (.o (.pbox 7 0))), (8, .c (.o (.int .i64))), (9, .c (.o (.int .i64)))], [⟨160, 2, .int .i64, 99⟩], [⟨3, 33, [.o (.dat 55 Y1)], false⟩, ⟨7, 55, [.o (.int .i64), .o (.int .i64), .o (.int .i64), .o (.int .i64), .o (.int .i64), .o (.dat 87 (.int .u64)), .o (.dat 2 (.int .i64))], false⟩], [], []⟩
def Z60.l18.u (n : Nat) (v : Z60.l18.s.V) (K : X -> St -> Prop) : Prop := Z60.l18 n v.1.1 v.1.2.2.2.1 v.2.1.1 v.2.2.1.1 v.2.2.2.1.1 v.2.2.2.1.2.1 v.2.2.2.1.2.2.1 v.2.2.2.1.2.2.2.1 v.2.2.2.1.2.2.2.2.1 v.2.2.2.1.2.2.2.2.2.1 v.2.2.2.1.2.2.2.2.2.2.1 v.1.2.2.2.2.2.1 v.1.2.2.2.2.2.2.1 (fun y0 y1 y2 y3 y4 => K (.exit 3) ⟨[(0, .c (.dat 46 Y5 y0)), (3, .c (.pbox 3 0)), (5, .c (.own 160)), (6, .c (.int .i64 y1)), (8, .c (.int .i64 y2))], [(160, ⟨2, .int .i64, y3, 99, none⟩)], [(3, ⟨33, [.dat 55 Y1 y4], false⟩)], [], []⟩)
abbrev Z60.l3.s : ST := ⟨[(0, .c (.o (.dat 46 Y5))), (3, .c (.o (.pbox 3 0))), (5, .c (.o (.own 160))), (6, .c (.o (.int .i64)))], [⟨160, 2, .int .i64, 99⟩], [⟨3, 33, [.o (.dat 55 Y1)], false⟩], [], []⟩
def Z60.l3.u (n : Nat) (v : Z60.l3.s.V) (K : X -> St -> Prop) : Prop := Z60.l3 n v.1.1 v.1.2.2.2.1 v.2.1.1 v.2.2.1.1 (fun y0 => K (.exit 0) ⟨[(5, .c (.own 160))], [(160, ⟨2, .int .i64, y0, 99, none⟩)], [], [], []⟩)
theorem Z60.l18_ok : ∀ n v K, Z60.l18.u n v K -> loopM C X0 n 15 18 (Z60.l18.s.fill v) K :=
 loop_tell hX (fn := Tryd.f15) (c := bodyOf Tryd.f15) (a := loopOf Tryd.f15 18) (li := liOf (C.fi 15).loops 18) (by kernel_rfl) (by kernel_rfl) (of_decide_eq_true rfl) (by kernel_rfl) (by kernel_rfl) (T := Z60.l18.s) (u := Z60.l18.u) (fun _ _ h => h) (call := D34) (lp := fun n => noL) (D34_ok hX) (fun n => noL_ok) (fun n v K => by kernel_rfl)
theorem Z60.l3_ok : ∀ n v K, Z60.l3.u n v K -> loopM C X0 n 15 3 (Z60.l3.s.fill v) K :=
 loop_tell hX (fn := Tryd.f15) (c := bodyOf Tryd.f15) (a := loopOf Tryd.f15 3) (li := liOf (C.fi 15).loops 3) (by kernel_rfl) (by kernel_rfl) (of_decide_eq_true rfl) (by kernel_rfl) (by kernel_rfl) (T := Z60.l3.s) (u := Z60.l3.u) (fun _ _ h => h) (call := D34) (lp := fun n => orL 18 Z60.l18.s (Z60.l18.u n) noL) (D34_ok hX) (fun n => (orL_ok (Z60.l18_ok hX n) noL_ok)) (fun n v K => by kernel_rfl)
theorem Z60_ok : ∀ n v K, Z60.u n v K -> callM C X0 n 15 (fillA Z60.a v) K :=
 call_tell hX (fn := Tryd.f15) (c := bodyOf Tryd.f15) (by kernel_rfl) (by kernel_rfl) (A := Z60.a) (u := Z60.u) (fun _ _ h => h) (call := D34) (lp := fun n => orL 3 Z60.l3.s (Z60.l3.u n) noL) (D34_ok hX) (fun n => (orL_ok (Z60.l3_ok hX n) noL_ok)) (fun n v K => by kernel_rfl)
def D35 (n : Nat) : CallF := orC 15 Z60.a (Z60.u n) (D34 n)
theorem D35_ok : ∀ n g a K, D35 n g a K -> callM C X0 n g a K := fun n => orC_ok (Z60_ok hX n) (D34_ok hX n)
abbrev Z61.a : List TS := [.c (.o (.dat 46 Y5)), .a [.o (.dat 55 Y1)], .c (.o (.int .i64))]
def Z61.u (n : Nat) (v : VA Z61.a) (K : RES -> Prop) : Prop := Z61.c n v.1 v.2.1.1 v.2.2.1 (fun r0 => K ⟨.c (.str r0), []⟩)
abbrev Z61.l13.s : ST := ⟨[(0, .c (.o (.dat 46 Y5))), (4, .c (.o (.pbox 4 0))), (7, .c (.o (.pbox 7 0))), (8, .c (.o .str)), (9, .c (.o (.int .i64)))], [], [⟨4, 33, [.o (.dat 55 Y1)], false⟩, ⟨7, 55, [.o (.int .i64), .o (.int .i64), .o (.int .i64), .o (.int .i64), .o (.int .i64), .o (.dat 87 (.int .u64)), .o (.dat 2 (.int .i64))], false⟩], [], []⟩
def Z61.l13.u (n : Nat) (v : Z61.l13.s.V) (K : X -> St -> Prop) : Prop := Z61.l13 n v.1.1 v.2.2.1.1 v.2.2.2.1.1 v.2.2.2.1.2.1 v.2.2.2.1.2.2.1 v.2.2.2.1.2.2.2.1 v.2.2.2.1.2.2.2.2.1 v.2.2.2.1.2.2.2.2.2.1 v.2.2.2.1.2.2.2.2.2.2.1 v.1.2.2.2.1 v.1.2.2.2.2.1 (fun y0 => K (.exit 1) ⟨[(8, .c (.str y0))], [], [], [], []⟩)
theorem Z61_all : ∀ n, (∀ v K, Z61.u n v K -> callM C X0 n 16 (fillA Z61.a v) K) /\ (∀ v K, Z61.l13.u n v K -> loopM C X0 n 16 13 (Z61.l13.s.fill v) K) /\ True
 | 0 => ⟨fun _ _ h => h.elim, fun _ _ h => h.elim, trivial⟩
 | n + 1 => have ih := Z61_all n
  ⟨fun v K h => call_of hX (fn := Tryd.f16) (c := bodyOf Tryd.f16) (by kernel_rfl) (by kernel_rfl) (call := (orC 16 Z61.a (Z61.u n) (D35 n))) (lp := orL 13 Z61.l13.s (Z61.l13.u n) noL) (orC_ok ih.1 (D35_ok hX n)) (orL_ok (ih.2.1) noL_ok) (P := Z61.u (n + 1) v K) (by kernel_rfl) h,
  fun v K h => loop_of hX (fn := Tryd.f16) (c := bodyOf Tryd.f16) (a := loopOf Tryd.f16 13) (li := liOf (C.fi 16).loops 13) (by kernel_rfl) (by kernel_rfl) (of_decide_eq_true rfl) (by kernel_rfl) (by kernel_rfl) (call := (orC 16 Z61.a (Z61.u n) (D35 n))) (lp := noL) (again := fitK Z61.l13.s fun v' => Z61.l13.u n v' K) (orC_ok ih.1 (D35_ok hX n)) noL_ok (fitK_ok fun v' h' => ih.2.1 v' K h') (P := Z61.l13.u (n + 1) v K) (by kernel_rfl) h, trivial⟩
theorem Z61_ok : ∀ n v K, Z61.u n v K -> callM C X0 n 16 (fillA Z61.a v) K := fun n => (Z61_all hX n).1
def D36 (n : Nat) : CallF := orC 16 Z61.a (Z61.u n) (D35 n)
theorem D36_ok : ∀ n g a K, D36 n g a K -> callM C X0 n g a K := fun n => orC_ok (Z61_ok hX n) (D35_ok hX n)
abbrev Z48.a : List TS := [.c (.o (.dat 46 Y5)), .a [.o (.dat 55 Y1)]]
def Z48.u (n : Nat) (v : VA Z48.a) (K : RES -> Prop) : Prop := Z48.c n v.1 v.2.1.1 (fun r0 => K ⟨.c (.str r0), []⟩)
theorem Z48_ok : ∀ n v K, Z48.u n v K -> callM C X0 n 6 (fillA Z48.a v) K :=
 call_tell hX (fn := Tryd.f6) (c := bodyOf Tryd.f6) (by kernel_rfl) (by kernel_rfl) (A := Z48.a) (u := Z48.u) (fun _ _ h => h) (call := D36) (lp := fun n => noL) (D36_ok hX) (fun n => noL_ok) (fun n v K => by kernel_rfl)
def D37 (n : Nat) : CallF := orC 6 Z48.a (Z48.u n) (D36 n)
theorem D37_ok : ∀ n g a K, D37 n g a K -> callM C X0 n g a K := fun n => orC_ok (Z48_ok hX n) (D36_ok hX n)
abbrev Z11.a : List TS := [.c (.o .str)]
def Z11.u (n : Nat) (v : VA Z11.a) (K : RES -> Prop) : Prop := Z11.c n v.1 (fun r0 => K ⟨.c (.bool r0), []⟩)
abbrev Z11.l4.s : ST := ⟨[(0, .c (.o .str)), (3, .c (.o (.int .i64)))], [], [], [], []⟩
def Z11.l4.u (n : Nat) (v : Z11.l4.s.V) (K : X -> St -> Prop) : Prop := Z11.l4 n v.1.1 v.1.2.1 (K (.exit 0) ⟨[], [], [], [], []⟩) (fun y0 => K .ret ⟨[(2, .c (.bool y0))], [], [], [], []⟩)
theorem Z11.l4_ok : ∀ n v K, Z11.l4.u n v K -> loopM C X0 n 49 4 (Z11.l4.s.fill v) K :=
 loop_tell hX (fn := Tryd.f49) (c := bodyOf Tryd.f49) (a := loopOf Tryd.f49 4) (li := liOf (C.fi 49).loops 4) (by kernel_rfl) (by kernel_rfl) (of_decide_eq_true rfl) (by kernel_rfl) (by kernel_rfl) (T := Z11.l4.s) (u := Z11.l4.u) (fun _ _ h => h) (call := D37) (lp := fun n => noL) (D37_ok hX) (fun n => noL_ok) (fun n v K => by kernel_rfl)
theorem Z11_ok : ∀ n v K, Z11.u n v K -> callM C X0 n 49 (fillA Z11.a v) K :=
 call_tell hX (fn := Tryd.f49) (c := bodyOf Tryd.f49) (by kernel_rfl) (by kernel_rfl) (A := Z11.a) (u := Z11.u) (fun _ _ h => h) (call := D37) (lp := fun n => orL 4 Z11.l4.s (Z11.l4.u n) noL) (D37_ok hX) (fun n => (orL_ok (Z11.l4_ok hX n) noL_ok)) (fun n v K => by kernel_rfl)
def D38 (n : Nat) : CallF := orC 49 Z11.a (Z11.u n) (D37 n)
theorem D38_ok : ∀ n g a K, D38 n g a K -> callM C X0 n g a K := fun n => orC_ok (Z11_ok hX n) (D37_ok hX n)
end
end Go.Vsi
end

section
set_option linter.unusedVariables false
namespace Go.Vsi
open Go.Proofs
section
variable (hX : CallF.Mono X0)
include hX
abbrev Z10.a : List TS := [.c (.o (.int .i64)), .c (.o (.int .i64)), .c (.o (.int .i64))]
def Z10.u (n : Nat) (v : VA Z10.a) (K : RES -> Prop) : Prop := Z10.c n v.1 v.2.1 v.2.2.1 (fun r0 => K ⟨.c (.bool r0), []⟩)
theorem Z10_ok : ∀ n v K, Z10.u n v K -> callM C X0 n 50 (fillA Z10.a v) K :=
 call_tell hX (fn := Tryd.f50) (c := bodyOf Tryd.f50) (by kernel_rfl) (by kernel_rfl) (A := Z10.a) (u := Z10.u) (fun _ _ h => h) (call := D38) (lp := fun n => noL) (D38_ok hX) (fun n => noL_ok) (fun n v K => by kernel_rfl)
def D39 (n : Nat) : CallF := orC 50 Z10.a (Z10.u n) (D38 n)
theorem D39_ok : ∀ n g a K, D39 n g a K -> callM C X0 n g a K := fun n => orC_ok (Z10_ok hX n) (D38_ok hX n)
abbrev Z9.a : List TS := [.a [.o .str, .o (.int .i64)], .c (.o (.pdat 9 .str 0))]
def Z9.u (n : Nat) (v : VA Z9.a) (K : RES -> Prop) : Prop := Z9.c n v.1.1 v.1.2.1 v.2.1 (fun r0 => K ⟨.c (.bool r0), []⟩)
theorem Z9_ok : ∀ n v K, Z9.u n v K -> callM C X0 n 67 (fillA Z9.a v) K :=
 call_tell hX (fn := Tryd.f67) (c := bodyOf Tryd.f67) (by kernel_rfl) (by kernel_rfl) (A := Z9.a) (u := Z9.u) (fun _ _ h => h) (call := D39) (lp := fun n => noL) (D39_ok hX) (fun n => noL_ok) (fun n v K => by kernel_rfl)
def D40 (n : Nat) : CallF := orC 67 Z9.a (Z9.u n) (D39 n)
theorem D40_ok : ∀ n g a K, D40 n g a K -> callM C X0 n g a K := fun n => orC_ok (Z9_ok hX n) (D39_ok hX n)
abbrev Z42.a : List TS := [.c (.o (.dat 46 Y5)), .c (.fn 67 [(false, 1)] 0 [.pdat 9 .str 0])]
def Z42.u (n : Nat) (v : VA Z42.a) (K : RES -> Prop) : Prop := Z42.c n v.1 v.2.1.1 (fun r0 => K ⟨.c (.int .i64 r0), []⟩)
abbrev Z42.l2.s : ST := ⟨[(0, .c (.o (.dat 46 Y5))), (1, .c (.fn 67 [(false, 1)] 0 [.pdat 9 .str 0])), (7, .c (.o (.int .i64))), (8, .c (.o (.int .i64)))], [], [], [], []⟩
def Z42.l2.u (n : Nat) (v : Z42.l2.s.V) (K : X -> St -> Prop) : Prop := Z42.l2 n v.1.1 v.1.2.1.1 v.1.2.2.1 v.1.2.2.2.1 (K (.exit 0) ⟨[], [], [], [], []⟩) (fun y0 => K .ret ⟨[(4, .c (.int .i64 y0))], [], [], [], []⟩)
theorem Z42.l2_ok : ∀ n v K, Z42.l2.u n v K -> loopM C X0 n 66 2 (Z42.l2.s.fill v) K :=
 loop_tell hX (fn := Tryd.f66) (c := bodyOf Tryd.f66) (a := loopOf Tryd.f66 2) (li := liOf (C.fi 66).loops 2) (by kernel_rfl) (by kernel_rfl) (of_decide_eq_true rfl) (by kernel_rfl) (by kernel_rfl) (T := Z42.l2.s) (u := Z42.l2.u) (fun _ _ h => h) (call := D40) (lp := fun n => noL) (D40_ok hX) (fun n => noL_ok) (fun n v K => by kernel_rfl)
theorem Z42_ok : ∀ n v K, Z42.u n v K -> callM C X0 n 66 (fillA Z42.a v) K :=
 call_tell hX (fn := Tryd.f66) (c := bodyOf Tryd.f66) (by kernel_rfl) (by kernel_rfl) (A := Z42.a) (u := Z42.u) (fun _ _ h => h) (call := D40) (lp := fun n => orL 2 Z42.l2.s (Z42.l2.u n) noL) (D40_ok hX) (fun n => (orL_ok (Z42.l2_ok hX n) noL_ok)) (fun n v K => by kernel_rfl)
def D41 (n : Nat) : CallF := orC 66 Z42.a (Z42.u n) (D40 n)
theorem D41_ok : ∀ n g a K, D41 n g a K -> callM C X0 n g a K := fun n => orC_ok (Z42_ok hX n) (D40_ok hX n)
abbrev Z8.a : List TS := [.c (.o (.dat 46 Y5)), .c (.o .str)]
def Z8.u (n : Nat) (v : VA Z8.a) (K : RES -> Prop) : Prop := Z8.c n v.1 v.2.1 (fun r0 => K ⟨.c (.int .i64 r0), []⟩)
theorem Z8_ok : ∀ n v K, Z8.u n v K -> callM C X0 n 51 (fillA Z8.a v) K :=
 call_tell hX (fn := Tryd.f51) (c := bodyOf Tryd.f51) (by kernel_rfl) (by kernel_rfl) (A := Z8.a) (u := Z8.u) (fun _ _ h => h) (call := D41) (lp := fun n => noL) (D41_ok hX) (fun n => noL_ok) (fun n v K => by kernel_rfl)
def D42 (n : Nat) : CallF := orC 51 Z8.a (Z8.u n) (D41 n)
theorem D42_ok : ∀ n g a K, D42 n g a K -> callM C X0 n g a K := fun n => orC_ok (Z8_ok hX n) (D41_ok hX n)
abbrev Z1.a : List TS := [.c (.o (.dat 46 Y5))]
def Z1.u (n : Nat) (v : VA Z1.a) (K : RES -> Prop) : Prop := Z1.c n v.1 (fun r0 => K ⟨.c (.bool r0), []⟩)
abbrev Z1.l5.s : ST := ⟨[(0, .c (.o (.dat 46 Y5))), (3, .c (.o (.int .i64))), (9, .c (.o (.dat 46 Y5))), (10, .c (.o (.int .i64))), (11, .c (.o (.int .i64)))], [], [], [], []⟩
def Z1.l5.u (n : Nat) (v : Z1.l5.s.V) (K : X -> St -> Prop) : Prop := Z1.l5 n v.1.1 v.1.2.2.1 v.1.2.2.2.1 v.1.2.1 v.1.2.2.2.2.1 (fun y0 => K (.exit 0) ⟨[(3, .c (.int .i64 y0))], [], [], [], []⟩) (fun y0 => K .ret ⟨[(2, .c (.bool y0))], [], [], [], []⟩)
theorem Z1.l5_ok : ∀ n v K, Z1.l5.u n v K -> loopM C X0 n 30 5 (Z1.l5.s.fill v) K :=
 loop_tell hX (fn := Tryd.f30) (c := bodyOf Tryd.f30) (a := loopOf Tryd.f30 5) (li := liOf (C.fi 30).loops 5) (by kernel_rfl) (by kernel_rfl) (of_decide_eq_true rfl) (by kernel_rfl) (by kernel_rfl) (T := Z1.l5.s) (u := Z1.l5.u) (fun _ _ h => h) (call := D42) (lp := fun n => noL) (D42_ok hX) (fun n => noL_ok) (fun n v K => by kernel_rfl)
theorem Z1_ok : ∀ n v K, Z1.u n v K -> callM C X0 n 30 (fillA Z1.a v) K :=
 call_tell hX (fn := Tryd.f30) (c := bodyOf Tryd.f30) (by kernel_rfl) (by kernel_rfl) (A := Z1.a) (u := Z1.u) (fun _ _ h => h) (call := D42) (lp := fun n => orL 5 Z1.l5.s (Z1.l5.u n) noL) (D42_ok hX) (fun n => (orL_ok (Z1.l5_ok hX n) noL_ok)) (fun n v K => by kernel_rfl)
def D43 (n : Nat) : CallF := orC 30 Z1.a (Z1.u n) (D42 n)
theorem D43_ok : ∀ n g a K, D43 n g a K -> callM C X0 n g a K := fun n => orC_ok (Z1_ok hX n) (D42_ok hX n)
abbrev Z16.a : List TS := [.c (.o (.int .i64))]
def Z16.u (n : Nat) (v : VA Z16.a) (K : RES -> Prop) : Prop := Z16.c n v.1 (fun r0 => K ⟨.c (.int .i64 r0), []⟩)
theorem Z16_ok : ∀ n v K, Z16.u n v K -> callM C X0 n 71 (fillA Z16.a v) K :=
 call_tell hX (fn := Tryd.f71) (c := bodyOf Tryd.f71) (by kernel_rfl) (by kernel_rfl) (A := Z16.a) (u := Z16.u) (fun _ _ h => h) (call := D43) (lp := fun n => noL) (D43_ok hX) (fun n => noL_ok) (fun n v K => by kernel_rfl)
def D44 (n : Nat) : CallF := orC 71 Z16.a (Z16.u n) (D43 n)
theorem D44_ok : ∀ n g a K, D44 n g a K -> callM C X0 n g a K := fun n => orC_ok (Z16_ok hX n) (D43_ok hX n)
abbrev Z0.a : List TS := [.a [.o (.int .i64), .o (.dat 87 (.int .u64))]]
def Z0.u (n : Nat) (v : VA Z0.a) (K : RES -> Prop) : Prop := Z0.c n v.1.1 v.1.2.1 (fun r0 => K ⟨.c (.bool r0), []⟩)
theorem Z0_ok : ∀ n v K, Z0.u n v K -> callM C X0 n 53 (fillA Z0.a v) K :=
 call_tell hX (fn := Tryd.f53) (c := bodyOf Tryd.f53) (by kernel_rfl) (by kernel_rfl) (A := Z0.a) (u := Z0.u) (fun _ _ h => h) (call := D44) (lp := fun n => noL) (D44_ok hX) (fun n => noL_ok) (fun n v K => by kernel_rfl)
def D45 (n : Nat) : CallF := orC 53 Z0.a (Z0.u n) (D44 n)
theorem D45_ok : ∀ n g a K, D45 n g a K -> callM C X0 n g a K := fun n => orC_ok (Z0_ok hX n) (D44_ok hX n)
abbrev Z4.a : List TS := [.c (.o (.pdat 55 Y1 0)), .c (.o (.dat 46 Y5)), .c (.o (.dat 2 (.int .i64)))]
def Z4.u (n : Nat) (v : VA Z4.a) (K : RES -> Prop) : Prop := Z4.c n v.1 v.2.1 v.2.2.1 (fun r0 => K ⟨.c (.int .i64 r0), []⟩)
abbrev Z4.l11.s : ST := ⟨[(8, .c (.o (.int .i64))), (80, .c (.o (.dat 2 (.int .i64)))), (81, .c (.o (.int .i64))), (82, .c (.o (.int .i64)))], [], [], [], []⟩
def Z4.l11.u (n : Nat) (v : Z4.l11.s.V) (K : X -> St -> Prop) : Prop := Z4.l11 n v.1.2.1 v.1.2.2.1 v.1.1 v.1.2.2.2.1 (fun y0 => K (.exit 1) ⟨[(8, .c (.int .i64 y0))], [], [], [], []⟩)
abbrev Z4.q21.s : ST := ⟨[(0, .c (.o (.pdat 55 Y1 0))), (7, .c (.o (.int .i64))), (137, .c (.o .bool))], [], [], [], []⟩
def Z4.q21.u (n : Nat) (v : Z4.q21.s.V) (K : X -> St -> Prop) : Prop := Z4.q21 n v.1.1 v.1.2.1 v.1.2.2.1 (fun y0 => K .ret ⟨[(6, .c (.int .i64 y0))], [], [], [], []⟩) (K .normal ⟨[], [], [], [], []⟩)
abbrev Z4.q9.s : ST := ⟨[(0, .c (.o (.pdat 55 Y1 0))), (2, .c (.o (.dat 2 (.int .i64)))), (7, .c (.o (.int .i64))), (69, .c (.o .bool))], [], [], [], []⟩
def Z4.q9.u (n : Nat) (v : Z4.q9.s.V) (K : X -> St -> Prop) : Prop := Z4.q9 n v.1.1 v.1.2.1 v.1.2.2.1 v.1.2.2.2.1 (fun y0 => K .ret ⟨[(6, .c (.int .i64 y0))], [], [], [], []⟩) (K .normal ⟨[], [], [], [], []⟩)
abbrev Z4.q5.s : ST := ⟨[(0, .c (.o (.pdat 55 Y1 0))), (1, .c (.o (.dat 46 Y5))), (2, .c (.o (.dat 2 (.int .i64)))), (7, .c (.o (.int .i64))), (17, .c (.o .bool))], [], [], [], []⟩
def Z4.q5.u (n : Nat) (v : Z4.q5.s.V) (K : X -> St -> Prop) : Prop := Z4.q5 n v.1.1 v.1.2.1 v.1.2.2.1 v.1.2.2.2.1 v.1.2.2.2.2.1 (fun y0 => K .ret ⟨[(6, .c (.int .i64 y0))], [], [], [], []⟩) (K .normal ⟨[], [], [], [], []⟩)
theorem Z4.l11_ok : ∀ n v K, Z4.l11.u n v K -> loopM C X0 n 68 11 (Z4.l11.s.fill v) K :=
 loop_tell hX (fn := Tryd.f68) (c := bodyOf Tryd.f68) (a := loopOf Tryd.f68 11) (li := liOf (C.fi 68).loops 11) (by kernel_rfl) (by kernel_rfl) (of_decide_eq_true rfl) (by kernel_rfl) (by kernel_rfl) (T := Z4.l11.s) (u := Z4.l11.u) (fun _ _ h => h) (call := D45) (lp := fun n => noL) (D45_ok hX) (fun n => noL_ok) (fun n v K => by kernel_rfl)
theorem Z4.q21_ok : ∀ n v K, Z4.q21.u n v K -> loopM C X0 n 68 1000021 (Z4.q21.s.fill v) K :=
 cut_tell hX (fn := Tryd.f68) (c := bodyOf Tryd.f68) (a := cutOf Tryd.f68 21) (li := liOf (C.fi 68).loops 1000021) (by kernel_rfl) (by kernel_rfl) (of_decide_eq_true rfl) (by kernel_rfl) (by kernel_rfl) (T := Z4.q21.s) (u := Z4.q21.u) (fun _ _ h => h) (call := D45) (lp := fun n => noL) (D45_ok hX) (fun n => noL_ok) (fun n v K => by kernel_rfl)
theorem Z4.q9_ok : ∀ n v K, Z4.q9.u n v K -> loopM C X0 n 68 1000009 (Z4.q9.s.fill v) K :=
 cut_tell hX (fn := Tryd.f68) (c := bodyOf Tryd.f68) (a := cutOf Tryd.f68 9) (li := liOf (C.fi 68).loops 1000009) (by kernel_rfl) (by kernel_rfl) (of_decide_eq_true rfl) (by kernel_rfl) (by kernel_rfl) (T := Z4.q9.s) (u := Z4.q9.u) (fun _ _ h => h) (call := D45) (lp := fun n => orL 11 Z4.l11.s (Z4.l11.u n) (orL 1000021 Z4.q21.s (Z4.q21.u n) noL)) (D45_ok hX) (fun n => (orL_ok (Z4.l11_ok hX n) (orL_ok (Z4.q21_ok hX n) noL_ok))) (fun n v K => by kernel_rfl)
theorem Z4.q5_ok : ∀ n v K, Z4.q5.u n v K -> loopM C X0 n 68 1000005 (Z4.q5.s.fill v) K :=
 cut_tell hX (fn := Tryd.f68) (c := bodyOf Tryd.f68) (a := cutOf Tryd.f68 5) (li := liOf (C.fi 68).loops 1000005) (by kernel_rfl) (by kernel_rfl) (of_decide_eq_true rfl) (by kernel_rfl) (by kernel_rfl) (T := Z4.q5.s) (u := Z4.q5.u) (fun _ _ h => h) (call := D45) (lp := fun n => orL 1000009 Z4.q9.s (Z4.q9.u n) noL) (D45_ok hX) (fun n => (orL_ok (Z4.q9_ok hX n) noL_ok)) (fun n v K => by kernel_rfl)
theorem Z4_ok : ∀ n v K, Z4.u n v K -> callM C X0 n 68 (fillA Z4.a v) K :=
 call_tell hX (fn := Tryd.f68) (c := bodyOf Tryd.f68) (by kernel_rfl) (by kernel_rfl) (A := Z4.a) (u := Z4.u) (fun _ _ h => h) (call := D45) (lp := fun n => orL 1000005 Z4.q5.s (Z4.q5.u n) noL) (D45_ok hX) (fun n => (orL_ok (Z4.q5_ok hX n) noL_ok)) (fun n v K => by kernel_rfl)
def D46 (n : Nat) : CallF := orC 68 Z4.a (Z4.u n) (D45 n)
theorem D46_ok : ∀ n g a K, D46 n g a K -> callM C X0 n g a K := fun n => orC_ok (Z4_ok hX n) (D45_ok hX n)
abbrev Z2.a : List TS := [.c (.o (.pdat 55 Y1 0))]
def Z2.u (n : Nat) (v : VA Z2.a) (K : RES -> Prop) : Prop := Z2.c n v.1 (fun r0 => K ⟨.c (.bool r0), []⟩)
abbrev Z2.q3.s : ST := ⟨[(0, .c (.o (.pdat 55 Y1 0))), (52, .c (.o .bool))], [], [], [], []⟩
def Z2.q3.u (n : Nat) (v : Z2.q3.s.V) (K : X -> St -> Prop) : Prop := Z2.q3 n v.1.1 v.1.2.1 (fun y0 => K .ret ⟨[(2, .c (.bool y0))], [], [], [], []⟩) (fun y0 => K .normal ⟨[(0, .c (.pdat 55 Y1 y0 0))], [], [], [], []⟩)
abbrev Z2.q2.s : ST := ⟨[(0, .c (.o (.pdat 55 Y1 0))), (3, .c (.o .bool))], [], [], [], []⟩
def Z2.q2.u (n : Nat) (v : Z2.q2.s.V) (K : X -> St -> Prop) : Prop := Z2.q2 n v.1.1 v.1.2.1 (fun y0 => K .ret ⟨[(2, .c (.bool y0))], [], [], [], []⟩)
theorem Z2.q3_ok : ∀ n v K, Z2.q3.u n v K -> loopM C X0 n 69 1000003 (Z2.q3.s.fill v) K :=
 cut_tell hX (fn := Tryd.f69) (c := bodyOf Tryd.f69) (a := cutOf Tryd.f69 3) (li := liOf (C.fi 69).loops 1000003) (by kernel_rfl) (by kernel_rfl) (of_decide_eq_true rfl) (by kernel_rfl) (by kernel_rfl) (T := Z2.q3.s) (u := Z2.q3.u) (fun _ _ h => h) (call := D46) (lp := fun n => noL) (D46_ok hX) (fun n => noL_ok) (fun n v K => by kernel_rfl)
theorem Z2.q2_ok : ∀ n v K, Z2.q2.u n v K -> loopM C X0 n 69 1000002 (Z2.q2.s.fill v) K :=
 cut_tell hX (fn := Tryd.f69) (c := bodyOf Tryd.f69) (a := cutOf Tryd.f69 2) (li := liOf (C.fi 69).loops 1000002) (by kernel_rfl) (by kernel_rfl) (of_decide_eq_true rfl) (by kernel_rfl) (by kernel_rfl) (T := Z2.q2.s) (u := Z2.q2.u) (fun _ _ h => h) (call := D46) (lp := fun n => orL 1000003 Z2.q3.s (Z2.q3.u n) noL) (D46_ok hX) (fun n => (orL_ok (Z2.q3_ok hX n) noL_ok)) (fun n v K => by kernel_rfl)
theorem Z2_ok : ∀ n v K, Z2.u n v K -> callM C X0 n 69 (fillA Z2.a v) K :=
 call_tell hX (fn := Tryd.f69) (c := bodyOf Tryd.f69) (by kernel_rfl) (by kernel_rfl) (A := Z2.a) (u := Z2.u) (fun _ _ h => h) (call := D46) (lp := fun n => orL 1000002 Z2.q2.s (Z2.q2.u n) noL) (D46_ok hX) (fun n => (orL_ok (Z2.q2_ok hX n) noL_ok)) (fun n v K => by kernel_rfl)
def D47 (n : Nat) : CallF := orC 69 Z2.a (Z2.u n) (D46 n)
theorem D47_ok : ∀ n g a K, D47 n g a K -> callM C X0 n g a K := fun n => orC_ok (Z2_ok hX n) (D46_ok hX n)
abbrev Z43.a : List TS := [.c (.o (.dat 4 .bool)), .c (.o .bool)]
def Z43.u (n : Nat) (v : VA Z43.a) (K : RES -> Prop) : Prop := Z43.c n v.1 v.2.1 (fun r0 => K ⟨.c (.int .i64 r0), []⟩)
abbrev Z43.l2.s : ST := ⟨[(0, .c (.o (.dat 4 .bool))), (1, .c (.o .bool)), (7, .c (.o (.int .i64))), (8, .c (.o (.int .i64)))], [], [], [], []⟩
def Z43.l2.u (n : Nat) (v : Z43.l2.s.V) (K : X -> St -> Prop) : Prop := Z43.l2 n v.1.1 v.1.2.1 v.1.2.2.1 v.1.2.2.2.1 (K (.exit 0) ⟨[], [], [], [], []⟩) (fun y0 => K .ret ⟨[(4, .c (.int .i64 y0))], [], [], [], []⟩)
theorem Z43.l2_ok : ∀ n v K, Z43.l2.u n v K -> loopM C X0 n 80 2 (Z43.l2.s.fill v) K :=
 loop_tell hX (fn := Tryd.f80) (c := bodyOf Tryd.f80) (a := loopOf Tryd.f80 2) (li := liOf (C.fi 80).loops 2) (by kernel_rfl) (by kernel_rfl) (of_decide_eq_true rfl) (by kernel_rfl) (by kernel_rfl) (T := Z43.l2.s) (u := Z43.l2.u) (fun _ _ h => h) (call := D47) (lp := fun n => noL) (D47_ok hX) (fun n => noL_ok) (fun n v K => by kernel_rfl)
theorem Z43_ok : ∀ n v K, Z43.u n v K -> callM C X0 n 80 (fillA Z43.a v) K :=
 call_tell hX (fn := Tryd.f80) (c := bodyOf Tryd.f80) (by kernel_rfl) (by kernel_rfl) (A := Z43.a) (u := Z43.u) (fun _ _ h => h) (call := D47) (lp := fun n => orL 2 Z43.l2.s (Z43.l2.u n) noL) (D47_ok hX) (fun n => (orL_ok (Z43.l2_ok hX n) noL_ok)) (fun n v K => by kernel_rfl)
def D48 (n : Nat) : CallF := orC 80 Z43.a (Z43.u n) (D47 n)
theorem D48_ok : ∀ n g a K, D48 n g a K -> callM C X0 n g a K := fun n => orC_ok (Z43_ok hX n) (D47_ok hX n)
abbrev Z41.a : List TS := [.c (.o (.dat 4 .bool)), .c (.o .bool)]
def Z41.u (n : Nat) (v : VA Z41.a) (K : RES -> Prop) : Prop := Z41.c n v.1 v.2.1 (fun r0 => K ⟨.c (.bool r0), []⟩)
theorem Z41_ok : ∀ n v K, Z41.u n v K -> callM C X0 n 70 (fillA Z41.a v) K :=
 call_tell hX (fn := Tryd.f70) (c := bodyOf Tryd.f70) (by kernel_rfl) (by kernel_rfl) (A := Z41.a) (u := Z41.u) (fun _ _ h => h) (call := D48) (lp := fun n => noL) (D48_ok hX) (fun n => noL_ok) (fun n v K => by kernel_rfl)
def D49 (n : Nat) : CallF := orC 70 Z41.a (Z41.u n) (D48 n)
theorem D49_ok : ∀ n g a K, D49 n g a K -> callM C X0 n g a K := fun n => orC_ok (Z41_ok hX n) (D48_ok hX n)
abbrev Z15.a : List TS := [.c (.o (.dat 46 Y5)), .a [.o (.dat 55 Y1)]]
def Z15.u (n : Nat) (v : VA Z15.a) (K : RES -> Prop) : Prop := Z15.c n v.1 v.2.1.1 (fun r0 r1 => K ⟨.tup [.c (.row ⟨2, .int .i64, r0, 99, none⟩), .c (.bool r1)], []⟩)
abbrev Z15.l13.s : ST := ⟨[(0, .c (.o (.dat 46 Y5))), (3, .c (.o (.pbox 3 0))), (6, .c (.o (.int .i64))), (7, .c (.o (.own 768))), (8, .c (.o (.own 832))), (9, .c (.o (.int .i64))), (10, .c (.o (.pdat 55 Y1 0))), (11, .c (.o (.own 1536))), (29, .c (.o (.int .i64))), (30, .c (.o (.int .i64))), (52, .c (.o (.dat 2 (.int .i64)))), (53, .c (.o (.int .i64))), (54, .c (.o (.int .i64)))], [⟨768, 2, .int .i64, 99⟩, ⟨832, 4, .bool, 99⟩, ⟨1536, 2, .int .i64, 99⟩], [⟨3, 33, [.o (.dat 55 Y1)], false⟩], [], []⟩
def Z15.l13.u (n : Nat) (v : Z15.l13.s.V) (K : X -> St -> Prop) : Prop := Z15.l13 n v.1.1 v.1.2.2.1 v.1.2.2.2.2.2.1 v.1.2.2.2.2.2.2.1 v.1.2.2.2.2.2.2.2.2.1 v.1.2.2.2.2.2.2.2.2.2.1 v.1.2.2.2.2.2.2.2.2.2.2.1 v.1.2.2.2.2.2.2.2.2.2.2.2.1 v.2.1.1 v.2.2.1.1 v.1.2.2.2.2.2.2.2.2.2.2.2.2.1 v.2.1.2.1 v.2.1.2.2.1 (fun y0 y1 y2 y3 y4 y5 y6 y7 y8 y9 => K (.exit 2) ⟨[(0, .c (.dat 46 Y5 y0)), (3, .c (.pbox 3 0)), (6, .c (.int .i64 y1)), (7, .c (.own 768)), (8, .c (.own 832)), (9, .c (.int .i64 y2)), (10, .c (.pdat 55 Y1 y3 0)), (11, .c (.own 1536)), (29, .c (.int .i64 y4)), (30, .c (.int .i64 y5))], [(768, ⟨2, .int .i64, y6, 99, none⟩), (832, ⟨4, .bool, y7, 99, none⟩), (1536, ⟨2, .int .i64, y8, 99, none⟩)], [(3, ⟨33, [.dat 55 Y1 y9], false⟩)], [], []⟩) (fun y0 y1 => K .ret ⟨[(4, .c (.own 128)), (5, .c (.bool y0))], [(128, ⟨2, .int .i64, y1, 99, none⟩)], [], [], []⟩)
abbrev Z15.l6.s : ST := ⟨[(0, .c (.o (.dat 46 Y5))), (3, .c (.o (.pbox 3 0))), (6, .c (.o (.int .i64))), (7, .c (.o (.own 768))), (8, .c (.o (.own 832))), (29, .c (.o (.int .i64))), (30, .c (.o (.int .i64)))], [⟨768, 2, .int .i64, 99⟩, ⟨832, 4, .bool, 99⟩], [⟨3, 33, [.o (.dat 55 Y1)], false⟩], [], []⟩
def Z15.l6.u (n : Nat) (v : Z15.l6.s.V) (K : X -> St -> Prop) : Prop := Z15.l6 n v.1.1 v.1.2.2.1 v.1.2.2.2.2.2.1 v.1.2.2.2.2.2.2.1 v.2.1.1 v.2.1.2.1 v.2.2.1.1 (fun y0 y1 y2 => K (.exit 0) ⟨[(6, .c (.int .i64 y0)), (7, .c (.own 768)), (8, .c (.own 832))], [(768, ⟨2, .int .i64, y1, 99, none⟩), (832, ⟨4, .bool, y2, 99, none⟩)], [], [], []⟩) (fun y0 y1 => K .ret ⟨[(4, .c (.own 128)), (5, .c (.bool y0))], [(128, ⟨2, .int .i64, y1, 99, none⟩)], [], [], []⟩)
theorem Z15.l13_ok : ∀ n v K, Z15.l13.u n v K -> loopM C X0 n 52 13 (Z15.l13.s.fill v) K :=
 loop_tell hX (fn := Tryd.f52) (c := bodyOf Tryd.f52) (a := loopOf Tryd.f52 13) (li := liOf (C.fi 52).loops 13) (by kernel_rfl) (by kernel_rfl) (of_decide_eq_true rfl) (by kernel_rfl) (by kernel_rfl) (T := Z15.l13.s) (u := Z15.l13.u) (fun _ _ h => h) (call := D49) (lp := fun n => noL) (D49_ok hX) (fun n => noL_ok) (fun n v K => by kernel_rfl)
theorem Z15.l6_ok : ∀ n v K, Z15.l6.u n v K -> loopM C X0 n 52 6 (Z15.l6.s.fill v) K :=
 loop_tell hX (fn := Tryd.f52) (c := bodyOf Tryd.f52) (a := loopOf Tryd.f52 6) (li := liOf (C.fi 52).loops 6) (by kernel_rfl) (by kernel_rfl) (of_decide_eq_true rfl) (by kernel_rfl) (by kernel_rfl) (T := Z15.l6.s) (u := Z15.l6.u) (fun _ _ h => h) (call := D49) (lp := fun n => orL 13 Z15.l13.s (Z15.l13.u n) noL) (D49_ok hX) (fun n => (orL_ok (Z15.l13_ok hX n) noL_ok)) (fun n v K => by kernel_rfl)
theorem Z15_ok : ∀ n v K, Z15.u n v K -> callM C X0 n 52 (fillA Z15.a v) K :=
 call_tell hX (fn := Tryd.f52) (c := bodyOf Tryd.f52) (by kernel_rfl) (by kernel_rfl) (A := Z15.a) (u := Z15.u) (fun _ _ h => h) (call := D49) (lp := fun n => orL 6 Z15.l6.s (Z15.l6.u n) noL) (D49_ok hX) (fun n => (orL_ok (Z15.l6_ok hX n) noL_ok)) (fun n v K => by kernel_rfl)
def D50 (n : Nat) : CallF := orC 52 Z15.a (Z15.u n) (D49 n)
theorem D50_ok : ∀ n g a K, D50 n g a K -> callM C X0 n g a K := fun n => orC_ok (Z15_ok hX n) (D49_ok hX n)
abbrev Z14.a : List TS := [.c (.o (.dat 46 Y5)), .a [.o (.dat 55 Y1)]]
def Z14.u (n : Nat) (v : VA Z14.a) (K : RES -> Prop) : Prop := Z14.c n v.1 v.2.1.1 (fun r0 => K ⟨.c (.int .i64 r0), []⟩)
theorem Z14_ok : ∀ n v K, Z14.u n v K -> callM C X0 n 31 (fillA Z14.a v) K :=
 call_tell hX (fn := Tryd.f31) (c := bodyOf Tryd.f31) (by kernel_rfl) (by kernel_rfl) (A := Z14.a) (u := Z14.u) (fun _ _ h => h) (call := D50) (lp := fun n => noL) (D50_ok hX) (fun n => noL_ok) (fun n v K => by kernel_rfl)
def D51 (n : Nat) : CallF := orC 31 Z14.a (Z14.u n) (D50 n)
theorem D51_ok : ∀ n g a K, D51 n g a K -> callM C X0 n g a K := fun n => orC_ok (Z14_ok hX n) (D50_ok hX n)
abbrev Z5.a : List TS := [.c (.o (.dat 46 Y5)), .a [.o (.dat 55 Y1)]]
def Z5.u (n : Nat) (v : VA Z5.a) (K : RES -> Prop) : Prop := Z5.c n v.1 v.2.1.1 (fun r0 => K ⟨.c (.int .i64 r0), []⟩)
theorem Z5_ok : ∀ n v K, Z5.u n v K -> callM C X0 n 19 (fillA Z5.a v) K :=
 call_tell hX (fn := Tryd.f19) (c := bodyOf Tryd.f19) (by kernel_rfl) (by kernel_rfl) (A := Z5.a) (u := Z5.u) (fun _ _ h => h) (call := D51) (lp := fun n => noL) (D51_ok hX) (fun n => noL_ok) (fun n v K => by kernel_rfl)
def D52 (n : Nat) : CallF := orC 19 Z5.a (Z5.u n) (D51 n)
theorem D52_ok : ∀ n g a K, D52 n g a K -> callM C X0 n g a K := fun n => orC_ok (Z5_ok hX n) (D51_ok hX n)
abbrev Z6.a : List TS := [.a [.o (.int .i64), .o (.dat 87 (.int .u64))]]
def Z6.u (n : Nat) (v : VA Z6.a) (K : RES -> Prop) : Prop := Z6.c n v.1.1 v.1.2.1 (fun r0 => K ⟨.c (.str r0), []⟩)
abbrev Z6.l8.s : ST := ⟨[(1, .c (.o (.pbox 1 0))), (3, .c (.o (.int .i64))), (5, .c (.o (.own 160))), (6, .c (.o (.int .i64)))], [⟨160, 5, .int .u8, 99⟩], [⟨1, 53, [.o (.int .i64), .o (.dat 87 (.int .u64))], false⟩], [], []⟩
def Z6.l8.u (n : Nat) (v : Z6.l8.s.V) (K : X -> St -> Prop) : Prop := Z6.l8 n v.1.2.1 v.2.2.1.1 v.2.2.1.2.1 v.1.2.2.2.1 v.2.1.1 (fun y0 => K (.exit 0) ⟨[(5, .c (.own 160))], [(160, ⟨5, .int .u8, y0, 99, none⟩)], [], [], []⟩)
theorem Z6.l8_ok : ∀ n v K, Z6.l8.u n v K -> loopM C X0 n 32 8 (Z6.l8.s.fill v) K :=
 loop_tell hX (fn := Tryd.f32) (c := bodyOf Tryd.f32) (a := loopOf Tryd.f32 8) (li := liOf (C.fi 32).loops 8) (by kernel_rfl) (by kernel_rfl) (of_decide_eq_true rfl) (by kernel_rfl) (by kernel_rfl) (T := Z6.l8.s) (u := Z6.l8.u) (fun _ _ h => h) (call := D52) (lp := fun n => noL) (D52_ok hX) (fun n => noL_ok) (fun n v K => by kernel_rfl)
theorem Z6_ok : ∀ n v K, Z6.u n v K -> callM C X0 n 32 (fillA Z6.a v) K :=
 call_tell hX (fn := Tryd.f32) (c := bodyOf Tryd.f32) (by kernel_rfl) (by kernel_rfl) (A := Z6.a) (u := Z6.u) (fun _ _ h => h) (call := D52) (lp := fun n => orL 8 Z6.l8.s (Z6.l8.u n) noL) (D52_ok hX) (fun n => (orL_ok (Z6.l8_ok hX n) noL_ok)) (fun n v K => by kernel_rfl)
def D53 (n : Nat) : CallF := orC 32 Z6.a (Z6.u n) (D52 n)
theorem D53_ok : ∀ n g a K, D53 n g a K -> callM C X0 n g a K := fun n => orC_ok (Z6_ok hX n) (D52_ok hX n)
abbrev Z13.a : List TS := [.c (.o (.int .i64))]
def Z13.u (n : Nat) (v : VA Z13.a) (K : RES -> Prop) : Prop := Z13.c n v.1 (fun r0 => K ⟨.c (.str r0), []⟩)
theorem Z13_ok : ∀ n v K, Z13.u n v K -> callM C X0 n 33 (fillA Z13.a v) K :=
 call_tell hX (fn := Tryd.f33) (c := bodyOf Tryd.f33) (by kernel_rfl) (by kernel_rfl) (A := Z13.a) (u := Z13.u) (fun _ _ h => h) (call := D53) (lp := fun n => noL) (D53_ok hX) (fun n => noL_ok) (fun n v K => by kernel_rfl)
def D54 (n : Nat) : CallF := orC 33 Z13.a (Z13.u n) (D53 n)
theorem D54_ok : ∀ n g a K, D54 n g a K -> callM C X0 n g a K := fun n => orC_ok (Z13_ok hX n) (D53_ok hX n)
abbrev Z12.a : List TS := [.c (.o (.int .i64))]
def Z12.u (n : Nat) (v : VA Z12.a) (K : RES -> Prop) : Prop := Z12.c n v.1 (fun r0 => K ⟨.c (.int .i64 r0), []⟩)
theorem Z12_ok : ∀ n v K, Z12.u n v K -> callM C X0 n 34 (fillA Z12.a v) K :=
 call_tell hX (fn := Tryd.f34) (c := bodyOf Tryd.f34) (by kernel_rfl) (by kernel_rfl) (A := Z12.a) (u := Z12.u) (fun _ _ h => h) (call := D54) (lp := fun n => noL) (D54_ok hX) (fun n => noL_ok) (fun n v K => by kernel_rfl)
def D55 (n : Nat) : CallF := orC 34 Z12.a (Z12.u n) (D54 n)
theorem D55_ok : ∀ n g a K, D55 n g a K -> callM C X0 n g a K := fun n => orC_ok (Z12_ok hX n) (D54_ok hX n)
abbrev Z65.a : List TS := [.c (.o (.int .i64)), .c (.o (.int .i64))]
def Z65.u (n : Nat) (v : VA Z65.a) (K : RES -> Prop) : Prop := Z65.c n v.1 v.2.1 (fun r0 => K ⟨.c (.str r0), []⟩)
omit hX in
theorem Z65_ok0 : ∀ n v K, Z65.u n v K -> callM C X0 n 35 (fillA Z65.a v) K :=
 out_tell (C := C) (X0 := X0) (g := 35) (by kernel_rfl) (B := fmtB) X0_fmt (A := Z65.a) (u := Z65.u) (fun v K h => h) (fun n v K => by kernel_rfl)
set_option linter.unusedSectionVars false in
theorem Z65_ok : ∀ n v K, Z65.u n v K -> callM C X0 n 35 (fillA Z65.a v) K := Z65_ok0
def D56 (n : Nat) : CallF := orC 35 Z65.a (Z65.u n) (D55 n)
theorem D56_ok : ∀ n g a K, D56 n g a K -> callM C X0 n g a K := fun n => orC_ok (Z65_ok hX n) (D55_ok hX n)
abbrev Z66.a : List TS := [.c (.o (.dat 9 .str)), .c (.o .str)]
def Z66.u (n : Nat) (v : VA Z66.a) (K : RES -> Prop) : Prop := Z66.c n v.1 v.2.1 (fun r0 => K ⟨.c (.str r0), []⟩)
omit hX in
theorem Z66_ok0 : ∀ n v K, Z66.u n v K -> callM C X0 n 36 (fillA Z66.a v) K :=
 out_tell (C := C) (X0 := X0) (g := 36) (by kernel_rfl) (B := joinB) X0_join (A := Z66.a) (u := Z66.u) (fun v K h => h) (fun n v K => by kernel_rfl)
set_option linter.unusedSectionVars false in
theorem Z66_ok : ∀ n v K, Z66.u n v K -> callM C X0 n 36 (fillA Z66.a v) K := Z66_ok0
def D57 (n : Nat) : CallF := orC 36 Z66.a (Z66.u n) (D56 n)
theorem D57_ok : ∀ n g a K, D57 n g a K -> callM C X0 n g a K := fun n => orC_ok (Z66_ok hX n) (D56_ok hX n)
abbrev Z3.a : List TS := [.c (.o (.pdat 55 Y1 0)), .c (.o (.dat 46 Y5)), .c (.o (.dat 9 .str))]
def Z3.u (n : Nat) (v : VA Z3.a) (K : RES -> Prop) : Prop := Z3.c n v.1 v.2.1 v.2.2.1 (fun r0 => K ⟨.c (.str r0), []⟩)
theorem Z3_ok : ∀ n v K, Z3.u n v K -> callM C X0 n 20 (fillA Z3.a v) K :=
 call_tell hX (fn := Tryd.f20) (c := bodyOf Tryd.f20) (by kernel_rfl) (by kernel_rfl) (A := Z3.a) (u := Z3.u) (fun _ _ h => h) (call := D57) (lp := fun n => noL) (D57_ok hX) (fun n => noL_ok) (fun n v K => by kernel_rfl)
def D58 (n : Nat) : CallF := orC 20 Z3.a (Z3.u n) (D57 n)
theorem D58_ok : ∀ n g a K, D58 n g a K -> callM C X0 n g a K := fun n => orC_ok (Z3_ok hX n) (D57_ok hX n)
abbrev Z7.a : List TS := [.c (.o (.dat 46 Y5)), .a [.o (.dat 55 Y1)]]
def Z7.u (n : Nat) (v : VA Z7.a) (K : RES -> Prop) : Prop := Z7.c n v.1 v.2.1.1 (fun r0 => K ⟨.c (.str r0), []⟩)
abbrev Z7.l10.s : ST := ⟨[(0, .c (.o (.dat 46 Y5))), (3, .c (.o (.pbox 3 0))), (5, .c (.o (.own 608))), (6, .c (.o (.int .i64))), (7, .c (.o (.pdat 55 Y1 0))), (8, .c (.o (.own 1120))), (9, .c (.o (.int .i64))), (22, .c (.o (.int .i64))), (23, .c (.o (.int .i64))), (39, .c (.o (.dat 2 (.int .i64)))), (40, .c (.o (.int .i64))), (41, .c (.o (.int .i64)))], [⟨608, 9, .str, 99⟩, ⟨1120, 9, .str, 99⟩], [⟨3, 33, [.o (.dat 55 Y1)], false⟩], [], []⟩
def Z7.l10.u (n : Nat) (v : Z7.l10.s.V) (K : X -> St -> Prop) : Prop := Z7.l10 n v.1.1 v.1.2.2.2.1 v.1.2.2.2.2.1 v.1.2.2.2.2.2.2.2.1 v.1.2.2.2.2.2.2.2.2.1 v.1.2.2.2.2.2.2.2.2.2.1 v.1.2.2.2.2.2.2.2.2.2.2.1 v.2.1.1 v.2.2.1.1 v.1.2.2.2.2.2.2.1 v.1.2.2.2.2.2.2.2.2.2.2.2.1 v.2.1.2.1 (fun y0 y1 y2 y3 y4 y5 y6 y7 y8 => K (.exit 2) ⟨[(0, .c (.dat 46 Y5 y0)), (3, .c (.pbox 3 0)), (5, .c (.own 608)), (6, .c (.int .i64 y1)), (7, .c (.pdat 55 Y1 y2 0)), (8, .c (.own 1120)), (9, .c (.int .i64 y3)), (22, .c (.int .i64 y4)), (23, .c (.int .i64 y5))], [(608, ⟨9, .str, y6, 99, none⟩), (1120, ⟨9, .str, y7, 99, none⟩)], [(3, ⟨33, [.dat 55 Y1 y8], false⟩)], [], []⟩)
abbrev Z7.l5.s : ST := ⟨[(0, .c (.o (.dat 46 Y5))), (3, .c (.o (.pbox 3 0))), (5, .c (.o (.own 608))), (22, .c (.o (.int .i64))), (23, .c (.o (.int .i64)))], [⟨608, 9, .str, 99⟩], [⟨3, 33, [.o (.dat 55 Y1)], false⟩], [], []⟩
def Z7.l5.u (n : Nat) (v : Z7.l5.s.V) (K : X -> St -> Prop) : Prop := Z7.l5 n v.1.1 v.1.2.2.2.1 v.1.2.2.2.2.1 v.2.1.1 v.2.2.1.1 (fun y0 => K (.exit 0) ⟨[(5, .c (.own 608))], [(608, ⟨9, .str, y0, 99, none⟩)], [], [], []⟩) (fun y0 => K .ret ⟨[(4, .c (.str y0))], [], [], [], []⟩)
theorem Z7.l10_ok : ∀ n v K, Z7.l10.u n v K -> loopM C X0 n 9 10 (Z7.l10.s.fill v) K :=
 loop_tell hX (fn := Tryd.f9) (c := bodyOf Tryd.f9) (a := loopOf Tryd.f9 10) (li := liOf (C.fi 9).loops 10) (by kernel_rfl) (by kernel_rfl) (of_decide_eq_true rfl) (by kernel_rfl) (by kernel_rfl) (T := Z7.l10.s) (u := Z7.l10.u) (fun _ _ h => h) (call := D58) (lp := fun n => noL) (D58_ok hX) (fun n => noL_ok) (fun n v K => by kernel_rfl)
theorem Z7.l5_ok : ∀ n v K, Z7.l5.u n v K -> loopM C X0 n 9 5 (Z7.l5.s.fill v) K :=
 loop_tell hX (fn := Tryd.f9) (c := bodyOf Tryd.f9) (a := loopOf Tryd.f9 5) (li := liOf (C.fi 9).loops 5) (by kernel_rfl) (by kernel_rfl) (of_decide_eq_true rfl) (by kernel_rfl) (by kernel_rfl) (T := Z7.l5.s) (u := Z7.l5.u) (fun _ _ h => h) (call := D58) (lp := fun n => orL 10 Z7.l10.s (Z7.l10.u n) noL) (D58_ok hX) (fun n => (orL_ok (Z7.l10_ok hX n) noL_ok)) (fun n v K => by kernel_rfl)
theorem Z7_ok : ∀ n v K, Z7.u n v K -> callM C X0 n 9 (fillA Z7.a v) K :=
 call_tell hX (fn := Tryd.f9) (c := bodyOf Tryd.f9) (by kernel_rfl) (by kernel_rfl) (A := Z7.a) (u := Z7.u) (fun _ _ h => h) (call := D58) (lp := fun n => orL 5 Z7.l5.s (Z7.l5.u n) noL) (D58_ok hX) (fun n => (orL_ok (Z7.l5_ok hX n) noL_ok)) (fun n v K => by kernel_rfl)
def D59 (n : Nat) : CallF := orC 9 Z7.a (Z7.u n) (D58 n)
theorem D59_ok : ∀ n g a K, D59 n g a K -> callM C X0 n g a K := fun n => orC_ok (Z7_ok hX n) (D58_ok hX n)
abbrev Z18.a : List TS := [.a [.o .str, .o (.int .i64)], .a [.o .str, .o (.int .i64)]]
def Z18.u (n : Nat) (v : VA Z18.a) (K : RES -> Prop) : Prop := Z18.c n v.1.1 v.1.2.1 v.2.1.1 v.2.1.2.1 (fun r0 => K ⟨.c (.bool r0), []⟩)
theorem Z18_ok : ∀ n v K, Z18.u n v K -> callM C X0 n 21 (fillA Z18.a v) K :=
 call_tell hX (fn := Tryd.f21) (c := bodyOf Tryd.f21) (by kernel_rfl) (by kernel_rfl) (A := Z18.a) (u := Z18.u) (fun _ _ h => h) (call := D59) (lp := fun n => noL) (D59_ok hX) (fun n => noL_ok) (fun n v K => by kernel_rfl)
def D60 (n : Nat) : CallF := orC 21 Z18.a (Z18.u n) (D59 n)
theorem D60_ok : ∀ n g a K, D60 n g a K -> callM C X0 n g a K := fun n => orC_ok (Z18_ok hX n) (D59_ok hX n)
abbrev Z19.a : List TS := [.c (.o (.dat 46 Y5)), .c (.o (.dat 46 Y5))]
def Z19.u (n : Nat) (v : VA Z19.a) (K : RES -> Prop) : Prop := Z19.c n v.1 v.2.1 (fun r0 => K ⟨.c (.bool r0), []⟩)
abbrev Z19.l4.s : ST := ⟨[(0, .c (.o (.dat 46 Y5))), (1, .c (.o (.dat 46 Y5))), (5, .c (.o (.int .i64)))], [], [], [], []⟩
def Z19.l4.u (n : Nat) (v : Z19.l4.s.V) (K : X -> St -> Prop) : Prop := Z19.l4 n v.1.1 v.1.2.1 v.1.2.2.1 (K (.exit 0) ⟨[], [], [], [], []⟩) (fun y0 => K .ret ⟨[(4, .c (.bool y0))], [], [], [], []⟩)
theorem Z19.l4_ok : ∀ n v K, Z19.l4.u n v K -> loopM C X0 n 10 4 (Z19.l4.s.fill v) K :=
 loop_tell hX (fn := Tryd.f10) (c := bodyOf Tryd.f10) (a := loopOf Tryd.f10 4) (li := liOf (C.fi 10).loops 4) (by kernel_rfl) (by kernel_rfl) (of_decide_eq_true rfl) (by kernel_rfl) (by kernel_rfl) (T := Z19.l4.s) (u := Z19.l4.u) (fun _ _ h => h) (call := D60) (lp := fun n => noL) (D60_ok hX) (fun n => noL_ok) (fun n v K => by kernel_rfl)
theorem Z19_ok : ∀ n v K, Z19.u n v K -> callM C X0 n 10 (fillA Z19.a v) K :=
 call_tell hX (fn := Tryd.f10) (c := bodyOf Tryd.f10) (by kernel_rfl) (by kernel_rfl) (A := Z19.a) (u := Z19.u) (fun _ _ h => h) (call := D60) (lp := fun n => orL 4 Z19.l4.s (Z19.l4.u n) noL) (D60_ok hX) (fun n => (orL_ok (Z19.l4_ok hX n) noL_ok)) (fun n v K => by kernel_rfl)
def D61 (n : Nat) : CallF := orC 10 Z19.a (Z19.u n) (D60 n)
theorem D61_ok : ∀ n g a K, D61 n g a K -> callM C X0 n g a K := fun n => orC_ok (Z19_ok hX n) (D60_ok hX n)
abbrev Z24.a : List TS := [.c (.o (.dat 87 (.int .u64))), .c (.o (.dat 87 (.int .u64)))]
def Z24.u (n : Nat) (v : VA Z24.a) (K : RES -> Prop) : Prop := Z24.c n v.1 v.2.1 (fun r0 => K ⟨.c (.bool r0), []⟩)
abbrev Z24.l4.s : ST := ⟨[(0, .c (.o (.dat 87 (.int .u64)))), (1, .c (.o (.dat 87 (.int .u64)))), (5, .c (.o (.int .i64)))], [], [], [], []⟩
def Z24.l4.u (n : Nat) (v : Z24.l4.s.V) (K : X -> St -> Prop) : Prop := Z24.l4 n v.1.1 v.1.2.1 v.1.2.2.1 (K (.exit 0) ⟨[], [], [], [], []⟩) (fun y0 => K .ret ⟨[(4, .c (.bool y0))], [], [], [], []⟩)
theorem Z24.l4_ok : ∀ n v K, Z24.l4.u n v K -> loopM C X0 n 78 4 (Z24.l4.s.fill v) K :=
 loop_tell hX (fn := Tryd.f78) (c := bodyOf Tryd.f78) (a := loopOf Tryd.f78 4) (li := liOf (C.fi 78).loops 4) (by kernel_rfl) (by kernel_rfl) (of_decide_eq_true rfl) (by kernel_rfl) (by kernel_rfl) (T := Z24.l4.s) (u := Z24.l4.u) (fun _ _ h => h) (call := D61) (lp := fun n => noL) (D61_ok hX) (fun n => noL_ok) (fun n v K => by kernel_rfl)
theorem Z24_ok : ∀ n v K, Z24.u n v K -> callM C X0 n 78 (fillA Z24.a v) K :=
 call_tell hX (fn := Tryd.f78) (c := bodyOf Tryd.f78) (by kernel_rfl) (by kernel_rfl) (A := Z24.a) (u := Z24.u) (fun _ _ h => h) (call := D61) (lp := fun n => orL 4 Z24.l4.s (Z24.l4.u n) noL) (D61_ok hX) (fun n => (orL_ok (Z24.l4_ok hX n) noL_ok)) (fun n v K => by kernel_rfl)
def D62 (n : Nat) : CallF := orC 78 Z24.a (Z24.u n) (D61 n)
theorem D62_ok : ∀ n g a K, D62 n g a K -> callM C X0 n g a K := fun n => orC_ok (Z24_ok hX n) (D61_ok hX n)
abbrev Z17.a : List TS := [.a [.o (.int .i64), .o (.dat 87 (.int .u64))], .a [.o (.int .i64), .o (.dat 87 (.int .u64))]]
def Z17.u (n : Nat) (v : VA Z17.a) (K : RES -> Prop) : Prop := Z17.c n v.1.1 v.1.2.1 v.2.1.1 v.2.1.2.1 (fun r0 => K ⟨.c (.bool r0), []⟩)
theorem Z17_ok : ∀ n v K, Z17.u n v K -> callM C X0 n 58 (fillA Z17.a v) K :=
 call_tell hX (fn := Tryd.f58) (c := bodyOf Tryd.f58) (by kernel_rfl) (by kernel_rfl) (A := Z17.a) (u := Z17.u) (fun _ _ h => h) (call := D62) (lp := fun n => noL) (D62_ok hX) (fun n => noL_ok) (fun n v K => by kernel_rfl)
def D63 (n : Nat) : CallF := orC 58 Z17.a (Z17.u n) (D62 n)
theorem D63_ok : ∀ n g a K, D63 n g a K -> callM C X0 n g a K := fun n => orC_ok (Z17_ok hX n) (D62_ok hX n)
abbrev Z20.a : List TS := [.c (.o (.dat 2 (.int .i64))), .c (.o (.dat 2 (.int .i64)))]
def Z20.u (n : Nat) (v : VA Z20.a) (K : RES -> Prop) : Prop := Z20.c n v.1 v.2.1 (fun r0 => K ⟨.c (.bool r0), []⟩)
abbrev Z20.l4.s : ST := ⟨[(0, .c (.o (.dat 2 (.int .i64)))), (1, .c (.o (.dat 2 (.int .i64)))), (5, .c (.o (.int .i64)))], [], [], [], []⟩
def Z20.l4.u (n : Nat) (v : Z20.l4.s.V) (K : X -> St -> Prop) : Prop := Z20.l4 n v.1.1 v.1.2.1 v.1.2.2.1 (K (.exit 0) ⟨[], [], [], [], []⟩) (fun y0 => K .ret ⟨[(4, .c (.bool y0))], [], [], [], []⟩)
theorem Z20.l4_ok : ∀ n v K, Z20.l4.u n v K -> loopM C X0 n 59 4 (Z20.l4.s.fill v) K :=
 loop_tell hX (fn := Tryd.f59) (c := bodyOf Tryd.f59) (a := loopOf Tryd.f59 4) (li := liOf (C.fi 59).loops 4) (by kernel_rfl) (by kernel_rfl) (of_decide_eq_true rfl) (by kernel_rfl) (by kernel_rfl) (T := Z20.l4.s) (u := Z20.l4.u) (fun _ _ h => h) (call := D63) (lp := fun n => noL) (D63_ok hX) (fun n => noL_ok) (fun n v K => by kernel_rfl)
theorem Z20_ok : ∀ n v K, Z20.u n v K -> callM C X0 n 59 (fillA Z20.a v) K :=
 call_tell hX (fn := Tryd.f59) (c := bodyOf Tryd.f59) (by kernel_rfl) (by kernel_rfl) (A := Z20.a) (u := Z20.u) (fun _ _ h => h) (call := D63) (lp := fun n => orL 4 Z20.l4.s (Z20.l4.u n) noL) (D63_ok hX) (fun n => (orL_ok (Z20.l4_ok hX n) noL_ok)) (fun n v K => by kernel_rfl)
def D64 (n : Nat) : CallF := orC 59 Z20.a (Z20.u n) (D63 n)
theorem D64_ok : ∀ n g a K, D64 n g a K -> callM C X0 n g a K := fun n => orC_ok (Z20_ok hX n) (D63_ok hX n)
abbrev Z21.a : List TS := [.a [.o (.int .i64), .o (.int .i64), .o (.int .i64), .o (.int .i64), .o (.int .i64), .o (.dat 87 (.int .u64)), .o (.dat 2 (.int .i64))], .a [.o (.int .i64), .o (.int .i64), .o (.int .i64), .o (.int .i64), .o (.int .i64), .o (.dat 87 (.int .u64)), .o (.dat 2 (.int .i64))]]
def Z21.u (n : Nat) (v : VA Z21.a) (K : RES -> Prop) : Prop := Z21.c n v.1.1 v.1.2.1 v.1.2.2.1 v.1.2.2.2.1 v.1.2.2.2.2.1 v.1.2.2.2.2.2.1 v.1.2.2.2.2.2.2.1 v.2.1.1 v.2.1.2.1 v.2.1.2.2.1 v.2.1.2.2.2.1 v.2.1.2.2.2.2.1 v.2.1.2.2.2.2.2.1 v.2.1.2.2.2.2.2.2.1 (fun r0 => K ⟨.c (.bool r0), []⟩)
theorem Z21_ok : ∀ n v K, Z21.u n v K -> callM C X0 n 37 (fillA Z21.a v) K :=
 call_tell hX (fn := Tryd.f37) (c := bodyOf Tryd.f37) (by kernel_rfl) (by kernel_rfl) (A := Z21.a) (u := Z21.u) (fun _ _ h => h) (call := D64) (lp := fun n => noL) (D64_ok hX) (fun n => noL_ok) (fun n v K => by kernel_rfl)
def D65 (n : Nat) : CallF := orC 37 Z21.a (Z21.u n) (D64 n)
theorem D65_ok : ∀ n g a K, D65 n g a K -> callM C X0 n g a K := fun n => orC_ok (Z21_ok hX n) (D64_ok hX n)
abbrev Z22.a : List TS := [.c (.o (.dat 55 Y1)), .c (.o (.dat 55 Y1))]
def Z22.u (n : Nat) (v : VA Z22.a) (K : RES -> Prop) : Prop := Z22.c n v.1 v.2.1 (fun r0 => K ⟨.c (.bool r0), []⟩)
abbrev Z22.l4.s : ST := ⟨[(0, .c (.o (.dat 55 Y1))), (1, .c (.o (.dat 55 Y1))), (5, .c (.o (.int .i64)))], [], [], [], []⟩
def Z22.l4.u (n : Nat) (v : Z22.l4.s.V) (K : X -> St -> Prop) : Prop := Z22.l4 n v.1.1 v.1.2.1 v.1.2.2.1 (K (.exit 0) ⟨[], [], [], [], []⟩) (fun y0 => K .ret ⟨[(4, .c (.bool y0))], [], [], [], []⟩)
theorem Z22.l4_ok : ∀ n v K, Z22.l4.u n v K -> loopM C X0 n 22 4 (Z22.l4.s.fill v) K :=
 loop_tell hX (fn := Tryd.f22) (c := bodyOf Tryd.f22) (a := loopOf Tryd.f22 4) (li := liOf (C.fi 22).loops 4) (by kernel_rfl) (by kernel_rfl) (of_decide_eq_true rfl) (by kernel_rfl) (by kernel_rfl) (T := Z22.l4.s) (u := Z22.l4.u) (fun _ _ h => h) (call := D65) (lp := fun n => noL) (D65_ok hX) (fun n => noL_ok) (fun n v K => by kernel_rfl)
theorem Z22_ok : ∀ n v K, Z22.u n v K -> callM C X0 n 22 (fillA Z22.a v) K :=
 call_tell hX (fn := Tryd.f22) (c := bodyOf Tryd.f22) (by kernel_rfl) (by kernel_rfl) (A := Z22.a) (u := Z22.u) (fun _ _ h => h) (call := D65) (lp := fun n => orL 4 Z22.l4.s (Z22.l4.u n) noL) (D65_ok hX) (fun n => (orL_ok (Z22.l4_ok hX n) noL_ok)) (fun n v K => by kernel_rfl)
def D66 (n : Nat) : CallF := orC 22 Z22.a (Z22.u n) (D65 n)
theorem D66_ok : ∀ n g a K, D66 n g a K -> callM C X0 n g a K := fun n => orC_ok (Z22_ok hX n) (D65_ok hX n)
abbrev Z23.a : List TS := [.a [.o (.dat 55 Y1)], .a [.o (.dat 55 Y1)]]
def Z23.u (n : Nat) (v : VA Z23.a) (K : RES -> Prop) : Prop := Z23.c n v.1.1 v.2.1.1 (fun r0 => K ⟨.c (.bool r0), []⟩)
theorem Z23_ok : ∀ n v K, Z23.u n v K -> callM C X0 n 11 (fillA Z23.a v) K :=
 call_tell hX (fn := Tryd.f11) (c := bodyOf Tryd.f11) (by kernel_rfl) (by kernel_rfl) (A := Z23.a) (u := Z23.u) (fun _ _ h => h) (call := D66) (lp := fun n => noL) (D66_ok hX) (fun n => noL_ok) (fun n v K => by kernel_rfl)
def D67 (n : Nat) : CallF := orC 11 Z23.a (Z23.u n) (D66 n)
theorem D67_ok : ∀ n g a K, D67 n g a K -> callM C X0 n g a K := fun n => orC_ok (Z23_ok hX n) (D66_ok hX n)
abbrev laws_FnExactWriteTerm.a : List TS := [.c (.o (.dat 40 Y5)), .a [.o (.dat 62 Y1)]]
def laws_FnExactWriteTerm.u (n : Nat) (v : VA laws_FnExactWriteTerm.a) (K : RES -> Prop) : Prop := laws_FnExactWriteTerm.c n v.1 v.2.1.1 (fun r0 => K ⟨.c (.bool r0), []⟩)
theorem laws_FnExactWriteTerm_ok : ∀ n v K, laws_FnExactWriteTerm.u n v K -> callM C X0 n 3 (fillA laws_FnExactWriteTerm.a v) K :=
 call_tell hX (fn := Tryd.f3) (c := bodyOf Tryd.f3) (by kernel_rfl) (by kernel_rfl) (A := laws_FnExactWriteTerm.a) (u := laws_FnExactWriteTerm.u) (fun _ _ h => h) (call := D67) (lp := fun n => noL) (D67_ok hX) (fun n => noL_ok) (fun n v K => by kernel_rfl)
def D68 (n : Nat) : CallF := orC 3 laws_FnExactWriteTerm.a (laws_FnExactWriteTerm.u n) (D67 n)
theorem D68_ok : ∀ n g a K, D68 n g a K -> callM C X0 n g a K := fun n => orC_ok (laws_FnExactWriteTerm_ok hX n) (D67_ok hX n)
end
end Go.Vsi
end
