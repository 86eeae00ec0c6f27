/- The Go functions that the laws of this seat reach, told on plain data. No statement is proved here. -/
import Derived.Test.YtdfpgighppfaoaaM3
import Derived.Test.YtdfpgighppfaoaaProg
import Derived.KernelRfl

section
set_option linter.unusedVariables false
namespace Go.Vsi
open Go.Proofs
def tis : List (Nat × TI) := [
  (1, { isAgg := false, size := 1, bytes := 8, zero := [.undef], ty := none, elem := none, fields := [] }),
  (2, { isAgg := false, size := 1, bytes := 8, zero := [.int .i64 0], ty := some (.int .i64), elem := none, fields := [] }),
  (3, { isAgg := false, size := 1, bytes := 8, zero := [.int .i64 0], ty := some (.int .i64), elem := none, fields := [] }),
  (4, { isAgg := false, size := 1, bytes := 1, zero := [.bool false], ty := some (.bool), elem := none, fields := [] }),
  (5, { isAgg := false, size := 1, bytes := 1, zero := [.int .u8 0], ty := some (.int .u8), elem := none, fields := [] }),
  (6, { isAgg := false, size := 1, bytes := 1, zero := [.int .u8 0], ty := some (.int .u8), elem := none, fields := [] }),
  (7, { isAgg := true, size := 4, bytes := 24, zero := [.int .i64 0, .int .i64 0, .bool false, .int .u8 0], ty := some (.prod (.int .i64) (.prod (.int .i64) (.prod .bool (.int .u8)))), elem := none, fields := [(0, 2), (1, 3), (2, 4), (3, 6)] }),
  (8, { isAgg := true, size := 4, bytes := 24, zero := [.int .i64 0, .int .i64 0, .bool false, .int .u8 0], ty := some (.prod (.int .i64) (.prod (.int .i64) (.prod .bool (.int .u8)))), elem := none, fields := [(0, 2), (1, 3), (2, 4), (3, 6)] }),
  (9, { isAgg := false, size := 1, bytes := 16, zero := [.str []], ty := some (.str), elem := none, fields := [] }),
  (10, { isAgg := false, size := 1, bytes := 16, zero := [.str []], ty := some (.str), elem := none, fields := [] }),
  (11, { isAgg := false, size := 1, bytes := 16, zero := [.str []], ty := some (.str), elem := none, fields := [] }),
  (12, { isAgg := false, size := 1, bytes := 8, zero := [.int .u64 0], ty := some (.int .u64), elem := none, fields := [] }),
  (13, { isAgg := true, size := 2, bytes := 24, zero := [.str [], .int .u64 0], ty := some (.prod .str (.int .u64)), elem := none, fields := [(0, 9), (1, 12)] }),
  (14, { isAgg := true, size := 2, bytes := 24, zero := [.str [], .int .u64 0], ty := some (.prod .str (.int .u64)), elem := none, fields := [(0, 9), (1, 12)] }),
  (15, { isAgg := false, size := 1, bytes := 8, zero := [.undef], ty := none, elem := none, fields := [] }),
  (16, { isAgg := false, size := 1, bytes := 8, zero := [.undef], ty := none, elem := none, fields := [] }),
  (17, { isAgg := false, size := 1, bytes := 8, zero := [.undef], ty := none, elem := none, fields := [] }),
  (18, { isAgg := true, size := 1, bytes := 8, zero := [.undef], ty := none, elem := none, fields := [(0, 17)] }),
  (19, { isAgg := true, size := 1, bytes := 8, zero := [.undef], ty := none, elem := none, fields := [(0, 17)] }),
  (20, { isAgg := false, size := 1, bytes := 16, zero := [.undef], ty := none, elem := none, fields := [] }),
  (21, { isAgg := false, size := 1, bytes := 4, zero := [.int .i32 0], ty := some (.int .i32), elem := none, fields := [] }),
  (22, { isAgg := false, size := 1, bytes := 24, zero := [.emp 5 (.int .u8)], ty := some (.sl 5 (.int .u8)), elem := some 5, fields := [] }),
  (23, { isAgg := false, size := 1, bytes := 8, zero := [.undef], ty := none, elem := none, fields := [] }),
  (24, { isAgg := false, size := 1, bytes := 24, zero := [.emp 52 (.int .u64)], ty := some (.sl 52 (.int .u64)), elem := some 52, fields := [] }),
  (25, { isAgg := true, size := 2, bytes := 32, zero := [.int .i64 0, .emp 52 (.int .u64)], ty := some (.prod (.int .i64) (.sl 52 (.int .u64))), elem := none, fields := [(0, 2), (1, 24)] }),
  (26, { isAgg := true, size := 2, bytes := 32, zero := [.int .i64 0, .emp 52 (.int .u64)], ty := some (.prod (.int .i64) (.sl 52 (.int .u64))), elem := none, fields := [(0, 2), (1, 24)] }),
  (27, { isAgg := false, size := 1, bytes := 8, zero := [.undef], ty := none, elem := none, fields := [] }),
  (28, { isAgg := false, size := 1, bytes := 8, zero := [.undef], ty := none, elem := none, fields := [] }),
  (30, { isAgg := false, size := 1, bytes := 8, zero := [.undef], ty := none, elem := none, fields := [] }),
  (31, { isAgg := false, size := 1, bytes := 8, zero := [.undef], ty := none, elem := none, fields := [] }),
  (32, { isAgg := false, size := 1, bytes := 8, zero := [.undef], ty := none, elem := none, fields := [] }),
  (33, { isAgg := false, size := 1, bytes := 8, zero := [.undef], ty := none, elem := none, fields := [] }),
  (35, { isAgg := false, size := 1, bytes := 8, zero := [.undef], ty := none, elem := none, fields := [] }),
  (36, { isAgg := false, size := 1, bytes := 8, zero := [.undef], ty := none, elem := none, fields := [] }),
  (37, { isAgg := false, size := 1, bytes := 8, zero := [.undef], ty := none, elem := none, fields := [] }),
  (38, { isAgg := false, size := 1, bytes := 8, zero := [.undef], ty := none, elem := none, fields := [] }),
  (39, { isAgg := false, size := 1, bytes := 8, zero := [.undef], ty := none, elem := none, fields := [] }),
  (40, { isAgg := false, size := 1, bytes := 8, zero := [.undef], ty := none, elem := none, fields := [] }),
  (41, { isAgg := false, size := 1, bytes := 8, zero := [.undef], ty := none, elem := none, fields := [] }),
  (43, { isAgg := false, size := 1, bytes := 8, zero := [.undef], ty := none, elem := none, fields := [] }),
  (44, { isAgg := false, size := 1, bytes := 8, zero := [.undef], ty := none, elem := none, fields := [] }),
  (45, { isAgg := false, size := 1, bytes := 8, zero := [.undef], ty := none, elem := none, fields := [] }),
  (46, { isAgg := false, size := 1, bytes := 8, zero := [.undef], ty := none, elem := none, fields := [] }),
  (47, { isAgg := false, size := 1, bytes := 8, zero := [.undef], ty := none, elem := none, fields := [] }),
  (48, { isAgg := false, size := 1, bytes := 8, zero := [.undef], ty := none, elem := none, fields := [] }),
  (49, { isAgg := false, size := 1, bytes := 8, zero := [.undef], ty := none, elem := none, fields := [] }),
  (50, { isAgg := false, size := 1, bytes := 8, zero := [.undef], ty := none, elem := none, fields := [] }),
  (51, { isAgg := false, size := 1, bytes := 8, zero := [.undef], ty := none, elem := none, fields := [] }),
  (52, { isAgg := false, size := 1, bytes := 8, zero := [.int .u64 0], ty := some (.int .u64), elem := none, fields := [] }),
  (53, { isAgg := false, size := 1, bytes := 8, zero := [.undef], ty := none, elem := none, fields := [] }),
  (54, { isAgg := false, size := 1, bytes := 8, zero := [.undef], ty := none, elem := none, fields := [] }),
  (55, { isAgg := false, size := 1, bytes := 8, zero := [.undef], ty := none, elem := none, fields := [] }),
  (56, { isAgg := false, size := 1, bytes := 8, zero := [.undef], ty := none, elem := none, fields := [] }),
  (57, { isAgg := false, size := 1, bytes := 8, zero := [.undef], ty := none, elem := none, fields := [] }),
  (58, { isAgg := false, size := 1, bytes := 8, zero := [.undef], ty := none, elem := none, fields := [] }),
  (59, { isAgg := false, size := 1, bytes := 8, zero := [.undef], ty := none, elem := none, fields := [] }),
  (60, { isAgg := false, size := 1, bytes := 8, zero := [.undef], ty := none, elem := none, fields := [] }),
  (61, { isAgg := false, size := 1, bytes := 8, zero := [.undef], ty := none, elem := none, fields := [] }),
  (62, { isAgg := false, size := 1, bytes := 8, zero := [.undef], ty := none, elem := none, fields := [] }),
  (63, { isAgg := false, size := 1, bytes := 24, zero := [.emp 9 .str], ty := some (.sl 9 .str), elem := some 9, fields := [] }),
  (64, { isAgg := false, size := 1, bytes := 8, zero := [.undef], ty := none, elem := none, fields := [] }),
  (65, { isAgg := false, size := 1, bytes := 8, zero := [.int .u64 0], ty := some (.int .u64), elem := none, fields := [] }),
  (66, { isAgg := false, size := 1, bytes := 8, zero := [.undef], ty := none, elem := none, fields := [] }),
  (67, { isAgg := false, size := 1, bytes := 8, zero := [.undef], ty := none, elem := none, fields := [] }),
  (68, { isAgg := false, size := 1, bytes := 24, zero := [.emp 2 (.int .i64)], ty := some (.sl 2 (.int .i64)), elem := some 2, fields := [] }),
  (69, { isAgg := false, size := 1, bytes := 8, zero := [.undef], ty := none, elem := none, fields := [] }),
  (70, { isAgg := true, size := 2, bytes := 32, zero := [.emp 5 (.int .u8), .int .i64 0], ty := some (.prod (.sl 5 (.int .u8)) (.int .i64)), elem := none, fields := [(0, 22), (1, 3)] }),
  (71, { isAgg := true, size := 2, bytes := 32, zero := [.emp 5 (.int .u8), .int .i64 0], ty := some (.prod (.sl 5 (.int .u8)) (.int .i64)), elem := none, fields := [(0, 22), (1, 3)] }),
  (72, { isAgg := false, size := 1, bytes := 8, zero := [.undef], ty := none, elem := none, fields := [] }),
  (73, { isAgg := false, size := 1, bytes := 8, zero := [.undef], ty := none, elem := none, fields := [] }),
  (74, { isAgg := false, size := 1, bytes := 8, zero := [.undef], ty := none, elem := none, fields := [] }),
  (75, { isAgg := false, size := 1, bytes := 8, zero := [.undef], ty := none, elem := none, fields := [] }),
  (76, { isAgg := false, size := 1, bytes := 8, zero := [.undef], ty := none, elem := none, fields := [] }),
  (77, { isAgg := false, size := 1, bytes := 8, zero := [.undef], ty := none, elem := none, fields := [] }),
  (78, { isAgg := false, size := 1, bytes := 8, zero := [.undef], ty := none, elem := none, fields := [] }),
  (79, { isAgg := false, size := 1, bytes := 8, zero := [.undef], ty := none, elem := none, fields := [] }),
  (80, { isAgg := true, size := 4, bytes := 40, zero := [.undef, .undef, .undef, .undef], ty := none, elem := none, fields := [(0, 17), (1, 17), (2, 17), (3, 9)] }),
  (81, { isAgg := true, size := 4, bytes := 40, zero := [.undef, .undef, .undef, .undef], ty := none, elem := none, fields := [(0, 17), (1, 17), (2, 17), (3, 9)] }),
  (82, { isAgg := true, size := 0, bytes := 0, zero := [], ty := none, elem := none, fields := [] }),
  (83, { isAgg := true, size := 0, bytes := 0, zero := [], ty := none, elem := none, fields := [(0, 82)] }),
  (84, { isAgg := true, size := 0, bytes := 0, zero := [], ty := none, elem := none, fields := [(0, 82)] }),
  (85, { isAgg := false, size := 1, bytes := 4, zero := [.int .u32 0], ty := some (.int .u32), elem := none, fields := [] }),
  (86, { isAgg := false, size := 1, bytes := 1, zero := [.int .u8 0], ty := some (.int .u8), elem := none, fields := [] }),
  (87, { isAgg := false, size := 1, bytes := 1, zero := [.int .u8 0], ty := some (.int .u8), elem := none, fields := [] }),
  (88, { isAgg := false, size := 1, bytes := 8, zero := [.undef], ty := none, elem := none, fields := [] }),
  (89, { isAgg := false, size := 1, bytes := 8, zero := [.undef], ty := none, elem := none, fields := [] }),
  (90, { isAgg := false, size := 1, bytes := 4, zero := [.int .i32 0], ty := some (.int .i32), elem := none, fields := [] }),
  (91, { isAgg := false, size := 1, bytes := 4, zero := [.int .i32 0], ty := some (.int .i32), elem := none, fields := [] }),
  (92, { isAgg := true, size := 11, bytes := 48, zero := [.undef, .undef, .undef, .undef, .undef, .undef, .undef, .undef, .undef, .undef, .undef], ty := none, elem := none, fields := [(0, 12), (1, 12), (2, 85), (3, 86), (4, 5), (5, 5), (6, 87), (7, 88), (8, 89), (9, 90), (10, 91)] }),
  (93, { isAgg := true, size := 11, bytes := 48, zero := [.undef, .undef, .undef, .undef, .undef, .undef, .undef, .undef, .undef, .undef, .undef], ty := none, elem := none, fields := [(0, 12), (1, 12), (2, 85), (3, 86), (4, 5), (5, 5), (6, 87), (7, 88), (8, 89), (9, 90), (10, 91)] }),
  (94, { isAgg := false, size := 1, bytes := 8, zero := [.undef], ty := none, elem := none, fields := [] })]
noncomputable def fns : List (Nat × Func) := [(3, Try.f3), (4, Try.f4), (6, Try.f6), (7, Try.f7), (8, Try.f8), (9, Try.f9), (10, Try.f10), (11, Try.f11), (12, Try.f12), (13, Try.f13), (14, Try.f14), (15, Try.f15), (16, Try.f16), (17, Try.f17), (18, Try.f18), (19, Try.f19), (25, Try.f25), (26, Try.f26), (27, Try.f27), (28, Try.f28), (29, Try.f29), (30, Try.f30), (31, Try.f31), (32, Try.f32), (33, Try.f33), (34, Try.f34), (35, Try.f35), (36, Try.f36), (37, Try.f37), (38, Try.f38), (39, Try.f39), (40, Try.f40), (41, Try.f41), (42, Try.f42), (43, Try.f43), (44, Try.f44), (45, Try.f45), (48, Try.f48), (49, Try.f49), (52, Try.f52), (53, Try.f53), (54, Try.f54), (55, Try.f55), (56, Try.f56), (57, Try.f57), (58, Try.f58), (60, Try.f60), (62, Try.f62), (63, Try.f63), (64, Try.f64)]
def fis : List (Nat × Fi) := [
  (3, { modes := [], rets := [], loops := [] }),
  (4, { modes := [], rets := [], loops := [] }),
  (6, { modes := [], rets := [], loops := [] }),
  (7, { modes := [], rets := [], loops := [] }),
  (8, { modes := [], rets := [], loops := [] }),
  (9, { modes := [], rets := [], loops := [(4, ⟨⟨[1, 3], []⟩, [(0, ⟨[], []⟩)], ⟨[2], []⟩⟩)] }),
  (10, { modes := [], rets := [], loops := [] }),
  (11, { modes := [], rets := [], loops := [] }),
  (12, { modes := [], rets := [], loops := [] }),
  (13, { modes := [], rets := [], loops := [(4, ⟨⟨[2, 3, 5], []⟩, [(0, ⟨[], []⟩)], ⟨[4], []⟩⟩)] }),
  (14, { modes := [], rets := [], loops := [(5, ⟨⟨[3, 10, 11, 12], []⟩, [(0, ⟨[3], []⟩)], ⟨[2], []⟩⟩)] }),
  (15, { modes := [], rets := [], loops := [] }),
  (16, { modes := [], rets := [], loops := [] }),
  (17, { modes := [], rets := [], loops := [(4, ⟨⟨[2, 3, 5], []⟩, [(0, ⟨[], []⟩)], ⟨[4], []⟩⟩)] }),
  (18, { modes := [], rets := [], loops := [(5, ⟨⟨[2, 4, 5], []⟩, [(0, ⟨[2], []⟩)], ⟨[2, 3], []⟩⟩)] }),
  (19, { modes := [], rets := [], loops := [(5, ⟨⟨[2, 4, 21, 22], []⟩, [(0, ⟨[2, 4], []⟩)], ⟨[2, 3], []⟩⟩)] }),
  (25, { modes := [], rets := [], loops := [] }),
  (26, { modes := [], rets := [], loops := [(6, ⟨⟨[1, 4, 6, 7, 8], []⟩, [(0, ⟨[4, 7], []⟩)], ⟨[4, 5], []⟩⟩)] }),
  (27, { modes := [], rets := [], loops := [] }),
  (28, { modes := [], rets := [], loops := [] }),
  (29, { modes := [], rets := [], loops := [] }),
  (30, { modes := [], rets := [], loops := [] }),
  (31, { modes := [1], rets := [], loops := [] }),
  (32, { modes := [], rets := [], loops := [] }),
  (33, { modes := [], rets := [], loops := [] }),
  (34, { modes := [], rets := [], loops := [] }),
  (35, { modes := [], rets := [], loops := [] }),
  (36, { modes := [], rets := [], loops := [(3, ⟨⟨[1, 2, 3, 6, 7, 15, 16], []⟩, [(0, ⟨[2, 6, 7], []⟩)], ⟨[6], []⟩⟩)] }),
  (37, { modes := [], rets := [], loops := [] }),
  (38, { modes := [], rets := [], loops := [] }),
  (39, { modes := [1], rets := [], loops := [] }),
  (40, { modes := [1], rets := [], loops := [(5, ⟨⟨[1, 4, 5, 6, 7, 8], [(5, 0, .own 99)]⟩, [(0, ⟨[4, 5], []⟩)], ⟨[4], []⟩⟩)] }),
  (41, { modes := [], rets := [], loops := [(2, ⟨⟨[2, 3, 5], []⟩, [(0, ⟨[], []⟩)], ⟨[4], []⟩⟩)] }),
  (42, { modes := [], rets := [], loops := [(3, ⟨⟨[1, 3, 4], [(3, 0, .own 99)]⟩, [(0, ⟨[3], []⟩)], ⟨[2], []⟩⟩)] }),
  (43, { modes := [], rets := [], loops := [(5, ⟨⟨[0, 2, 4, 5], []⟩, [(0, ⟨[2, 4], []⟩)], ⟨[2, 3], []⟩⟩)] }),
  (44, { modes := [], rets := [], loops := [] }),
  (45, { modes := [], rets := [], loops := [] }),
  (48, { modes := [1], rets := [], loops := [] }),
  (49, { modes := [1], rets := [], loops := [] }),
  (52, { modes := [1], rets := [], loops := [] }),
  (53, { modes := [], rets := [], loops := [] }),
  (54, { modes := [], rets := [], loops := [(3, ⟨⟨[2, 4, 5, 12, 13], []⟩, [(0, ⟨[4, 5], []⟩)], ⟨[4], []⟩⟩)] }),
  (55, { modes := [], rets := [], loops := [(5, ⟨⟨[3, 6, 7, 26, 27], []⟩, [(0, ⟨[6, 7], []⟩)], ⟨[6], []⟩⟩)] }),
  (56, { modes := [1], rets := [], loops := [(3, ⟨⟨[0, 3, 4], []⟩, [(0, ⟨[3], []⟩)], ⟨[2], []⟩⟩)] }),
  (57, { modes := [1], rets := [], loops := [(2, ⟨⟨[1, 3, 10, 11, 12], []⟩, [(0, ⟨[], []⟩)], ⟨[], []⟩⟩)] }),
  (58, { modes := [], rets := [], loops := [] }),
  (60, { modes := [1], rets := [], loops := [] }),
  (62, { modes := [1], rets := [], loops := [] }),
  (63, { modes := [], rets := [], loops := [] }),
  (64, { modes := [1], rets := [], loops := [] })]
noncomputable def C : Ctx := { ti := fun t => look t tis, fs := fun f => look f fns, fi := fun f => (look f fis).getD { modes := [], rets := [], loops := [] } }
def bodyOf (f : Func) : Code := f.body.getD .skip
def loopOf (f : Func) (k : Nat) : Code := (findLoop k (bodyOf f)).getD .skip
def liOf (l : List (Nat × Li)) (k : Nat) : Li := (look k l).getD ⟨⟨[], []⟩, [], ⟨[], []⟩⟩
theorem tis_ok : (tis.all fun x => tiB Try.prog x.1 x.2) = true := by kernel_rfl
theorem fns_all : (fns.all fun x => fnB x.2) = true := by kernel_rfl
theorem fns_prog : ∀ x ∈ fns, Try.prog.funcs[x.1]? = some x.2 := (List.forall_mem_cons.2 ⟨Try.func3, (List.forall_mem_cons.2 ⟨Try.func4, (List.forall_mem_cons.2 ⟨Try.func6, (List.forall_mem_cons.2 ⟨Try.func7, (List.forall_mem_cons.2 ⟨Try.func8, (List.forall_mem_cons.2 ⟨Try.func9, (List.forall_mem_cons.2 ⟨Try.func10, (List.forall_mem_cons.2 ⟨Try.func11, (List.forall_mem_cons.2 ⟨Try.func12, (List.forall_mem_cons.2 ⟨Try.func13, (List.forall_mem_cons.2 ⟨Try.func14, (List.forall_mem_cons.2 ⟨Try.func15, (List.forall_mem_cons.2 ⟨Try.func16, (List.forall_mem_cons.2 ⟨Try.func17, (List.forall_mem_cons.2 ⟨Try.func18, (List.forall_mem_cons.2 ⟨Try.func19, (List.forall_mem_cons.2 ⟨Try.func25, (List.forall_mem_cons.2 ⟨Try.func26, (List.forall_mem_cons.2 ⟨Try.func27, (List.forall_mem_cons.2 ⟨Try.func28, (List.forall_mem_cons.2 ⟨Try.func29, (List.forall_mem_cons.2 ⟨Try.func30, (List.forall_mem_cons.2 ⟨Try.func31, (List.forall_mem_cons.2 ⟨Try.func32, (List.forall_mem_cons.2 ⟨Try.func33, (List.forall_mem_cons.2 ⟨Try.func34, (List.forall_mem_cons.2 ⟨Try.func35, (List.forall_mem_cons.2 ⟨Try.func36, (List.forall_mem_cons.2 ⟨Try.func37, (List.forall_mem_cons.2 ⟨Try.func38, (List.forall_mem_cons.2 ⟨Try.func39, (List.forall_mem_cons.2 ⟨Try.func40, (List.forall_mem_cons.2 ⟨Try.func41, (List.forall_mem_cons.2 ⟨Try.func42, (List.forall_mem_cons.2 ⟨Try.func43, (List.forall_mem_cons.2 ⟨Try.func44, (List.forall_mem_cons.2 ⟨Try.func45, (List.forall_mem_cons.2 ⟨Try.func48, (List.forall_mem_cons.2 ⟨Try.func49, (List.forall_mem_cons.2 ⟨Try.func52, (List.forall_mem_cons.2 ⟨Try.func53, (List.forall_mem_cons.2 ⟨Try.func54, (List.forall_mem_cons.2 ⟨Try.func55, (List.forall_mem_cons.2 ⟨Try.func56, (List.forall_mem_cons.2 ⟨Try.func57, (List.forall_mem_cons.2 ⟨Try.func58, (List.forall_mem_cons.2 ⟨Try.func60, (List.forall_mem_cons.2 ⟨Try.func62, (List.forall_mem_cons.2 ⟨Try.func63, (List.forall_mem_cons.2 ⟨Try.func64, (fun _ h => by cases h)⟩)⟩)⟩)⟩)⟩)⟩)⟩)⟩)⟩)⟩)⟩)⟩)⟩)⟩)⟩)⟩)⟩)⟩)⟩)⟩)⟩)⟩)⟩)⟩)⟩)⟩)⟩)⟩)⟩)⟩)⟩)⟩)⟩)⟩)⟩)⟩)⟩)⟩)⟩)⟩)⟩)⟩)⟩)⟩)⟩)⟩)⟩)⟩)⟩)⟩)
theorem C_ok : CtxOK Try.prog C := ctx_ok tis_ok fns_prog
theorem C_fns : FnsOK Try.prog C := Go.Vsi.fns_ok fns_all
theorem C_follows : Try.prog.follows .mixedOrders = true := by kernel_rfl
def D0 (n : Nat) : CallF := fun _ _ _ => False
theorem D0_ok (X0 : CallF) (hX : CallF.Mono X0) (n : Nat) : ∀ f a K, D0 n f a K → callM C X0 n f a K := fun _ _ _ h => h.elim
end Go.Vsi
end

section
set_option linter.unusedVariables false
namespace Go.Vsi
open Go.Proofs

def laws_big.w (n : Nat) (a1 : List Int) (K : Bool → Prop) : Prop :=
  K (decide ((a1.length : Int) > 1048576))
def laws_big.c : Nat → List Int → (Bool → Prop) → Prop
  | 0, _, _ => False
  | n + 1, a1, K => laws_big.w n  a1 K
theorem laws_big_ok (X0 : CallF) (hX : CallF.Mono X0) : ∀ (n : Nat) (a1 : List Int) (K : RES → Prop), laws_big.c n a1 (fun r0 => K ⟨.c (.bool r0), []⟩) → callM C X0 n 7 [.c (.dat 5 (.int .u8) a1)] K := by
  intro n
  cases n with
  | zero => intros; exact absurd ‹_› id
  | succ n =>
    intro a1 K h
    exact call_of (fn := Try.f7) (c := bodyOf Try.f7) hX (by kernel_rfl) (by kernel_rfl) (call := D0 n) (lp := fun _ _ _ => False) (D0_ok X0 hX n) (fun _ _ _ h => h.elim) (by kernel_rfl) h
def D1 (n : Nat) : CallF := fun f a K => match f, a with
  | 7, [.c (.dat 5 (.int .u8) a1)] => laws_big.c n a1 (fun r0 => K ⟨.c (.bool r0), []⟩)
  | f, a => D0 n f a K
theorem D1_ok (X0 : CallF) (hX : CallF.Mono X0) (n : Nat) : ∀ f a K, D1 n f a K → callM C X0 n f a K := by
  intro f a K h
  unfold D1 at h
  split at h
  · exact laws_big_ok X0 hX n _ K h
  · exact D0_ok X0 hX n _ _ _ h
def spec_l1Open.w (n : Nat) (a1 : List Int) (K : List Int → Int → Prop) : Prop :=
  K a1 0
def spec_l1Open.c : Nat → List Int → (List Int → Int → Prop) → Prop
  | 0, _, _ => False
  | n + 1, a1, K => spec_l1Open.w n  a1 K
theorem spec_l1Open_ok (X0 : CallF) (hX : CallF.Mono X0) : ∀ (n : Nat) (a1 : List Int) (K : RES → Prop), spec_l1Open.c n a1 (fun r0 r1 => K ⟨.c (.boxr 71 [.dat 5 (.int .u8) r0, .int .i64 r1]), []⟩) → callM C X0 n 30 [.c (.dat 5 (.int .u8) a1)] K := by
  intro n
  cases n with
  | zero => intros; exact absurd ‹_› id
  | succ n =>
    intro a1 K h
    exact call_of (fn := Try.f30) (c := bodyOf Try.f30) hX (by kernel_rfl) (by kernel_rfl) (call := D1 n) (lp := fun _ _ _ => False) (D1_ok X0 hX n) (fun _ _ _ h => h.elim) (by kernel_rfl) h
def D2 (n : Nat) : CallF := fun f a K => match f, a with
  | 30, [.c (.dat 5 (.int .u8) a1)] => spec_l1Open.c n a1 (fun r0 r1 => K ⟨.c (.boxr 71 [.dat 5 (.int .u8) r0, .int .i64 r1]), []⟩)
  | f, a => D1 n f a K
theorem D2_ok (X0 : CallF) (hX : CallF.Mono X0) (n : Nat) : ∀ f a K, D2 n f a K → callM C X0 n f a K := by
  intro f a K h
  unfold D2 at h
  split at h
  · exact spec_l1Open_ok X0 hX n _ K h
  · exact D1_ok X0 hX n _ _ _ h
def spec_l1Rd_next.w (n : Nat) (a1 : List Int) (a2 : Int) (K : Int → List Int → Int → Prop) : Prop :=
  if (decide (a2 ≥ (a1.length : Int))) = true then (K 0 a1 a2) else (let t4 : Int := IntKind.wrap .i64 ((IntKind.wrap .i64 (a2 + 1)) - 1); grd (decide (0 ≤ t4) && decide (t4 < (a1.length : Int))) (K (IntKind.wrap .i64 (rd a1 (Int.toNat t4))) a1 (IntKind.wrap .i64 (a2 + 1))))
def spec_l1Rd_next.c : Nat → List Int → Int → (Int → List Int → Int → Prop) → Prop
  | 0, _, _, _ => False
  | n + 1, a1, a2, K => spec_l1Rd_next.w n  a1 a2 K
theorem spec_l1Rd_next_ok (X0 : CallF) (hX : CallF.Mono X0) : ∀ (n : Nat) (a1 : List Int) (a2 : Int) (K : RES → Prop), spec_l1Rd_next.c n a1 a2 (fun r0 r1 r2 => K ⟨.c (.int .i64 r0), [[.boxr 71 [.dat 5 (.int .u8) r1, .int .i64 r2]]]⟩) → callM C X0 n 60 [.c (.boxr 71 [.dat 5 (.int .u8) a1, .int .i64 a2])] K := by
  intro n
  cases n with
  | zero => intros; exact absurd ‹_› id
  | succ n =>
    intro a1 a2 K h
    exact call_of (fn := Try.f60) (c := bodyOf Try.f60) hX (by kernel_rfl) (by kernel_rfl) (call := D2 n) (lp := fun _ _ _ => False) (D2_ok X0 hX n) (fun _ _ _ h => h.elim) (by kernel_rfl) h
def D3 (n : Nat) : CallF := fun f a K => match f, a with
  | 60, [.c (.boxr 71 [.dat 5 (.int .u8) a1, .int .i64 a2])] => spec_l1Rd_next.c n a1 a2 (fun r0 r1 r2 => K ⟨.c (.int .i64 r0), [[.boxr 71 [.dat 5 (.int .u8) r1, .int .i64 r2]]]⟩)
  | f, a => D2 n f a K
theorem D3_ok (X0 : CallF) (hX : CallF.Mono X0) (n : Nat) : ∀ f a K, D3 n f a K → callM C X0 n f a K := by
  intro f a K h
  unfold D3 at h
  split at h
  · exact spec_l1Rd_next_ok X0 hX n _ _ K h
  · exact D2_ok X0 hX n _ _ _ h
def spec_l1Rd_below.w (n : Nat) (a1 : List Int) (a2 : Int) (a3 : Int) (K : Int → List Int → Int → Prop) : Prop :=
  if (decide (a3 ≤ 1)) = true then (K 0 a1 a2) else (if (decide (a3 ≤ 256)) = true then (spec_l1Rd_next.c n a1 a2 (fun r7 r8 r9 => grd (!(decide (a3 = 0))) (K (Int.tmod r7 a3) r8 r9))) else (spec_l1Rd_next.c n a1 a2 (fun r10 r11 r12 => spec_l1Rd_next.c n r11 r12 (fun r13 r14 r15 => let t16 : Int := IntKind.wrap .i64 ((IntKind.wrap .i64 (r10 * 256)) + r13); grd (!(decide (a3 = 0))) (K (Int.tmod t16 a3) r14 r15)))))
def spec_l1Rd_below.c : Nat → List Int → Int → Int → (Int → List Int → Int → Prop) → Prop
  | 0, _, _, _, _ => False
  | n + 1, a1, a2, a3, K => spec_l1Rd_below.w n  a1 a2 a3 K
theorem spec_l1Rd_below_ok (X0 : CallF) (hX : CallF.Mono X0) : ∀ (n : Nat) (a1 : List Int) (a2 : Int) (a3 : Int) (K : RES → Prop), spec_l1Rd_below.c n a1 a2 a3 (fun r0 r1 r2 => K ⟨.c (.int .i64 r0), [[.boxr 71 [.dat 5 (.int .u8) r1, .int .i64 r2]]]⟩) → callM C X0 n 49 [.c (.boxr 71 [.dat 5 (.int .u8) a1, .int .i64 a2]), .c (.int .i64 a3)] K := by
  intro n
  cases n with
  | zero => intros; exact absurd ‹_› id
  | succ n =>
    intro a1 a2 a3 K h
    exact call_of (fn := Try.f49) (c := bodyOf Try.f49) hX (by kernel_rfl) (by kernel_rfl) (call := D3 n) (lp := fun _ _ _ => False) (D3_ok X0 hX n) (fun _ _ _ h => h.elim) (by kernel_rfl) h
def D4 (n : Nat) : CallF := fun f a K => match f, a with
  | 49, [.c (.boxr 71 [.dat 5 (.int .u8) a1, .int .i64 a2]), .c (.int .i64 a3)] => spec_l1Rd_below.c n a1 a2 a3 (fun r0 r1 r2 => K ⟨.c (.int .i64 r0), [[.boxr 71 [.dat 5 (.int .u8) r1, .int .i64 r2]]]⟩)
  | f, a => D3 n f a K
theorem D4_ok (X0 : CallF) (hX : CallF.Mono X0) (n : Nat) : ∀ f a K, D4 n f a K → callM C X0 n f a K := by
  intro f a K h
  unfold D4 at h
  split at h
  · exact spec_l1Rd_below_ok X0 hX n _ _ _ K h
  · exact D3_ok X0 hX n _ _ _ h
def spec_l1Rd_wide.w (n : Nat) (a1 : List Int) (a2 : Int) (K : Int → List Int → Int → Prop) : Prop :=
  spec_l1Rd_below.c n a1 a2 10 (fun r13 r14 r15 => if (decide (r13 = 0)) = true then (let t16 : List Int := ([63, 64, 65, 127, 128, 129, 200] : List (Int)); spec_l1Rd_below.c n r14 r15 7 (fun r17 r18 r19 => grd (decide (0 ≤ r17) && decide (r17 < (t16.length : Int))) (K (rd t16 (Int.toNat r17)) r18 r19))) else (if (decide (r13 = 1)) = true then (spec_l1Rd_below.c n r14 r15 40 (fun r20 r21 r22 => K (IntKind.wrap .i64 (1 + r20)) r21 r22)) else (spec_l1Rd_below.c n r14 r15 12 (fun r23 r24 r25 => K (IntKind.wrap .i64 (1 + r23)) r24 r25))))
def spec_l1Rd_wide.c : Nat → List Int → Int → (Int → List Int → Int → Prop) → Prop
  | 0, _, _, _ => False
  | n + 1, a1, a2, K => spec_l1Rd_wide.w n  a1 a2 K
theorem spec_l1Rd_wide_ok (X0 : CallF) (hX : CallF.Mono X0) : ∀ (n : Nat) (a1 : List Int) (a2 : Int) (K : RES → Prop), spec_l1Rd_wide.c n a1 a2 (fun r0 r1 r2 => K ⟨.c (.int .i64 r0), [[.boxr 71 [.dat 5 (.int .u8) r1, .int .i64 r2]]]⟩) → callM C X0 n 48 [.c (.boxr 71 [.dat 5 (.int .u8) a1, .int .i64 a2])] K := by
  intro n
  cases n with
  | zero => intros; exact absurd ‹_› id
  | succ n =>
    intro a1 a2 K h
    exact call_of (fn := Try.f48) (c := bodyOf Try.f48) hX (by kernel_rfl) (by kernel_rfl) (call := D4 n) (lp := fun _ _ _ => False) (D4_ok X0 hX n) (fun _ _ _ h => h.elim) (by kernel_rfl) h
def D5 (n : Nat) : CallF := fun f a K => match f, a with
  | 48, [.c (.boxr 71 [.dat 5 (.int .u8) a1, .int .i64 a2])] => spec_l1Rd_wide.c n a1 a2 (fun r0 r1 r2 => K ⟨.c (.int .i64 r0), [[.boxr 71 [.dat 5 (.int .u8) r1, .int .i64 r2]]]⟩)
  | f, a => D4 n f a K
theorem D5_ok (X0 : CallF) (hX : CallF.Mono X0) (n : Nat) : ∀ f a K, D5 n f a K → callM C X0 n f a K := by
  intro f a K h
  unfold D5 at h
  split at h
  · exact spec_l1Rd_wide_ok X0 hX n _ _ K h
  · exact D4_ok X0 hX n _ _ _ h
def spec_l1Rd_word.l3.b (n : Nat) (again3 : Int → Int → List Int → Int → Prop) (x3 : Int) (x4 : Int) (x5 : List Int) (x6 : Int) (Kx0w3 : Int → List Int → Int → Prop) : Prop :=
  if (decide (x4 < 8)) = true then (spec_l1Rd_next.c n x5 x6 (fun r11 r12 r13 => let t14 : Int := ibits .or .u64 (IntKind.wrap .u64 (x3 * 2 ^ 8)) (IntKind.wrap .u64 r11); again3 t14 (IntKind.wrap .i64 (x4 + 1)) r12 r13)) else (Kx0w3 x3 x5 x6)
def spec_l1Rd_word.l3 : Nat → Int → Int → List Int → Int → (Int → List Int → Int → Prop) → Prop
  | 0, _, _, _, _, _ => False
  | n + 1, x3, x4, x5, x6, Kx0w3 => spec_l1Rd_word.l3.b n   (fun x3q x4q x5q x6q => spec_l1Rd_word.l3 n x3q x4q x5q x6q Kx0w3) x3 x4 x5 x6 Kx0w3
def spec_l1Rd_word.w (n : Nat) (lp3 : Int → Int → List Int → Int → (Int → List Int → Int → Prop) → Prop) (a1 : List Int) (a2 : Int) (K : Int → List Int → Int → Prop) : Prop :=
  lp3 0 0 a1 a2 (fun y18 y19 y20 => K y18 y19 y20)
def spec_l1Rd_word.c : Nat → List Int → Int → (Int → List Int → Int → Prop) → Prop
  | 0, _, _, _ => False
  | n + 1, a1, a2, K => spec_l1Rd_word.w n (spec_l1Rd_word.l3 n) a1 a2 K
theorem spec_l1Rd_word.l3_ok (X0 : CallF) (hX : CallF.Mono X0) : ∀ (n : Nat) (x3 : Int) (x4 : Int) (x5 : List Int) (x6 : Int) (K : X → St → Prop), spec_l1Rd_word.l3 n x3 x4 x5 x6 (fun y0 y1 y2 => K (.exit 0) ⟨[(3, .c (.int .u64 y0))], [], [(0, ⟨71, [.dat 5 (.int .u8) y1, .int .i64 y2], false⟩)], [], [0]⟩) → loopM C X0 n 56 3 ⟨[(0, .c (.pbox 0 0)), (3, .c (.int .u64 x3)), (4, .c (.int .i64 x4))], [], [(0, ⟨71, [.dat 5 (.int .u8) x5, .int .i64 x6], false⟩)], [], [0]⟩ K := by
  intro n
  induction n with
  | zero => intros; exact absurd ‹_› id
  | succ n ih =>
    intro x3 x4 x5 x6 K h
    refine loop_of (fn := Try.f56) (c := bodyOf Try.f56) (a := loopOf Try.f56 3) (li := liOf (C.fi 56).loops 3) hX (by kernel_rfl) (by kernel_rfl) (by kernel_rfl) (by kernel_rfl) (call := D5 n) (lp := fun _ _ _ => False) (again := fun st => match st with | ⟨[(0, .c (.pbox 0 0)), (3, .c (.int .u64 x3)), (4, .c (.int .i64 x4))], [], [(0, ⟨71, [.dat 5 (.int .u8) x5, .int .i64 x6], false⟩)], [], [0]⟩ => spec_l1Rd_word.l3 n x3 x4 x5 x6 (fun y0 y1 y2 => K (.exit 0) ⟨[(3, .c (.int .u64 y0))], [], [(0, ⟨71, [.dat 5 (.int .u8) y1, .int .i64 y2], false⟩)], [], [0]⟩) | _ => False) (D5_ok X0 hX n) (fun _ _ _ h => h.elim) ?_ (by kernel_rfl) h
    intro s hs

    split at hs
    · exact ih _ _ _ _ K hs
    · exact hs.elim
theorem spec_l1Rd_word_ok (X0 : CallF) (hX : CallF.Mono X0) : ∀ (n : Nat) (a1 : List Int) (a2 : Int) (K : RES → Prop), spec_l1Rd_word.c n a1 a2 (fun r0 r1 r2 => K ⟨.c (.int .u64 r0), [[.boxr 71 [.dat 5 (.int .u8) r1, .int .i64 r2]]]⟩) → callM C X0 n 56 [.c (.boxr 71 [.dat 5 (.int .u8) a1, .int .i64 a2])] K := by
  intro n
  cases n with
  | zero => intros; exact absurd ‹_› id
  | succ n =>
    intro a1 a2 K h
    exact call_of (fn := Try.f56) (c := bodyOf Try.f56) hX (by kernel_rfl) (by kernel_rfl) (call := D5 n) (lp := fun k st K => match k, st with | 3, ⟨[(0, .c (.pbox 0 0)), (3, .c (.int .u64 x3)), (4, .c (.int .i64 x4))], [], [(0, ⟨71, [.dat 5 (.int .u8) x5, .int .i64 x6], false⟩)], [], [0]⟩ => spec_l1Rd_word.l3 n x3 x4 x5 x6 (fun y0 y1 y2 => K (.exit 0) ⟨[(3, .c (.int .u64 y0))], [], [(0, ⟨71, [.dat 5 (.int .u8) y1, .int .i64 y2], false⟩)], [], [0]⟩) | _, _ => False) (D5_ok X0 hX n) (by intro k st K h; split at h <;> first | exact h.elim | exact spec_l1Rd_word.l3_ok X0 hX n _ _ _ _ K h) (by kernel_rfl) h
def D6 (n : Nat) : CallF := fun f a K => match f, a with
  | 56, [.c (.boxr 71 [.dat 5 (.int .u8) a1, .int .i64 a2])] => spec_l1Rd_word.c n a1 a2 (fun r0 r1 r2 => K ⟨.c (.int .u64 r0), [[.boxr 71 [.dat 5 (.int .u8) r1, .int .i64 r2]]]⟩)
  | f, a => D5 n f a K
theorem D6_ok (X0 : CallF) (hX : CallF.Mono X0) (n : Nat) : ∀ f a K, D6 n f a K → callM C X0 n f a K := by
  intro f a K h
  unfold D6 at h
  split at h
  · exact spec_l1Rd_word_ok X0 hX n _ _ K h
  · exact D5_ok X0 hX n _ _ _ h
def spec_l1From.l5.b (n : Nat) (x4 : List Int) (x7 : List Int) (x8 : Int) (x9 : Int) (again5 : Int → List Int → Prop) (x5 : Int) (x6 : List Int) (Kx0w5 : List Int → List Int → Int → Int → Prop) : Prop :=
  if (decide (x5 < (x4.length : Int))) = true then (grd (decide (0 ≤ IntKind.wrap .i64 (Int.tdiv x5 64)) && decide (IntKind.wrap .i64 (Int.tdiv x5 64) < (x6.length : Int))) (let t14 : Nat := Int.toNat (IntKind.wrap .i64 (Int.tdiv x5 64)); grd (decide (0 ≤ x5) && decide (x5 < (x4.length : Int))) (grd (decide (0 ≤ IntKind.wrap .u64 (Int.tmod x5 64))) (let t15 : Int := IntKind.wrap .u64 ((IntKind.wrap .u64 (rd x4 (Int.toNat x5))) * 2 ^ (Nat.min (Int.toNat (IntKind.wrap .u64 (Int.tmod x5 64))) 64)); grd (decide (0 ≤ IntKind.wrap .i64 (Int.tdiv x5 64)) && decide (IntKind.wrap .i64 (Int.tdiv x5 64) < (x6.length : Int))) (let t16 : Nat := Int.toNat (IntKind.wrap .i64 (Int.tdiv x5 64)); let t17 : List Int := List.set x6 t16 (ibits .or .u64 (rd x6 t14) t15); again5 (IntKind.wrap .i64 (x5 + 1)) t17))))) else (Kx0w5 x6 x7 x8 x9)
def spec_l1From.l5 : Nat → List Int → List Int → Int → Int → Int → List Int → (List Int → List Int → Int → Int → Prop) → Prop
  | 0, _, _, _, _, _, _, _ => False
  | n + 1, x4, x7, x8, x9, x5, x6, Kx0w5 => spec_l1From.l5.b n  x4 x7 x8 x9 (fun x5q x6q => spec_l1From.l5 n x4 x7 x8 x9 x5q x6q Kx0w5) x5 x6 Kx0w5
def spec_l1From.j0 (K : Int → List Int → Bool → Prop) (a1 : List Int) (lp5 : List Int → List Int → Int → Int → Int → List Int → (List Int → List Int → Int → Int → Prop) → Prop) : Prop :=
  let t3 : Int := IntKind.wrap .i64 (Int.tdiv (IntKind.wrap .i64 ((a1.length : Int) + 63)) 64); grd ((decide (0 ≤ t3) && decide (t3 ≤ 7818749353073)) && decide (t3 = t3)) (lp5 a1 ([] : List (Int)) 0 (a1.length : Int) 0 (List.replicate (Int.toNat t3) 0) (fun y22 y23 y24 y25 => K y25 y22 true))
def spec_l1From.w (n : Nat) (lp5 : List Int → List Int → Int → Int → Int → List Int → (List Int → List Int → Int → Int → Prop) → Prop) (a1 : List Int) (K : Int → List Int → Bool → Prop) : Prop :=
  if (decide ((a1.length : Int) < 1)) = false then (if (decide ((a1.length : Int) > 4096)) = true then (K 0 ([] : List (Int)) false) else (spec_l1From.j0 K a1 lp5)) else (K 0 ([] : List (Int)) false)
def spec_l1From.c : Nat → List Int → (Int → List Int → Bool → Prop) → Prop
  | 0, _, _ => False
  | n + 1, a1, K => spec_l1From.w n (spec_l1From.l5 n) a1 K
theorem spec_l1From.l5_ok (X0 : CallF) (hX : CallF.Mono X0) : ∀ (n : Nat) (x4 : List Int) (x5 : Int) (x6 : List Int) (x7 : List Int) (x8 : Int) (x9 : Int) (K : X → St → Prop), spec_l1From.l5 n x4 x7 x8 x9 x5 x6 (fun y0 y1 y2 y3 => K (.exit 0) ⟨[(2, .c (.pbox 2 0)), (4, .c (.pbox 4 0))], [(672, ⟨52, .int .u64, y0, 99, none⟩), (1000065, ⟨52, .int .u64, y1, 99, none⟩)], [(2, ⟨26, [.int .i64 y2, .own 1000065], false⟩), (4, ⟨26, [.int .i64 y3, .own 672], false⟩)], [], []⟩) → loopM C X0 n 43 5 ⟨[(0, .c (.dat 5 (.int .u8) x4)), (2, .c (.pbox 2 0)), (4, .c (.pbox 4 0)), (5, .c (.int .i64 x5))], [(672, ⟨52, .int .u64, x6, 99, none⟩), (1000065, ⟨52, .int .u64, x7, 99, none⟩)], [(2, ⟨26, [.int .i64 x8, .own 1000065], false⟩), (4, ⟨26, [.int .i64 x9, .own 672], false⟩)], [], []⟩ K := by
  intro n
  induction n with
  | zero => intros; exact absurd ‹_› id
  | succ n ih =>
    intro x4 x5 x6 x7 x8 x9 K h
    refine loop_of (fn := Try.f43) (c := bodyOf Try.f43) (a := loopOf Try.f43 5) (li := liOf (C.fi 43).loops 5) hX (by kernel_rfl) (by kernel_rfl) (by kernel_rfl) (by kernel_rfl) (call := D6 n) (lp := fun _ _ _ => False) (again := fun st => match st with | ⟨[(0, .c (.dat 5 (.int .u8) x4)), (2, .c (.pbox 2 0)), (4, .c (.pbox 4 0)), (5, .c (.int .i64 x5))], [(672, ⟨52, .int .u64, x6, 99, none⟩), (1000065, ⟨52, .int .u64, x7, 99, none⟩)], [(2, ⟨26, [.int .i64 x8, .own 1000065], false⟩), (4, ⟨26, [.int .i64 x9, .own 672], false⟩)], [], []⟩ => spec_l1From.l5 n x4 x7 x8 x9 x5 x6 (fun y0 y1 y2 y3 => K (.exit 0) ⟨[(2, .c (.pbox 2 0)), (4, .c (.pbox 4 0))], [(672, ⟨52, .int .u64, y0, 99, none⟩), (1000065, ⟨52, .int .u64, y1, 99, none⟩)], [(2, ⟨26, [.int .i64 y2, .own 1000065], false⟩), (4, ⟨26, [.int .i64 y3, .own 672], false⟩)], [], []⟩) | _ => False) (D6_ok X0 hX n) (fun _ _ _ h => h.elim) ?_ (by kernel_rfl) h
    intro s hs

    split at hs
    · exact ih _ _ _ _ _ _ K hs
    · exact hs.elim
theorem spec_l1From_ok (X0 : CallF) (hX : CallF.Mono X0) : ∀ (n : Nat) (a1 : List Int) (K : RES → Prop), spec_l1From.c n a1 (fun r0 r1 r2 => K ⟨.tup [.agg [.int .i64 r0, .row ⟨52, .int .u64, r1, 99, none⟩], .c (.bool r2)], []⟩) → callM C X0 n 43 [.c (.dat 5 (.int .u8) a1)] K := by
  intro n
  cases n with
  | zero => intros; exact absurd ‹_› id
  | succ n =>
    intro a1 K h
    exact call_of (fn := Try.f43) (c := bodyOf Try.f43) hX (by kernel_rfl) (by kernel_rfl) (call := D6 n) (lp := fun k st K => match k, st with | 5, ⟨[(0, .c (.dat 5 (.int .u8) x4)), (2, .c (.pbox 2 0)), (4, .c (.pbox 4 0)), (5, .c (.int .i64 x5))], [(672, ⟨52, .int .u64, x6, 99, none⟩), (1000065, ⟨52, .int .u64, x7, 99, none⟩)], [(2, ⟨26, [.int .i64 x8, .own 1000065], false⟩), (4, ⟨26, [.int .i64 x9, .own 672], false⟩)], [], []⟩ => spec_l1From.l5 n x4 x7 x8 x9 x5 x6 (fun y0 y1 y2 y3 => K (.exit 0) ⟨[(2, .c (.pbox 2 0)), (4, .c (.pbox 4 0))], [(672, ⟨52, .int .u64, y0, 99, none⟩), (1000065, ⟨52, .int .u64, y1, 99, none⟩)], [(2, ⟨26, [.int .i64 y2, .own 1000065], false⟩), (4, ⟨26, [.int .i64 y3, .own 672], false⟩)], [], []⟩) | _, _ => False) (D6_ok X0 hX n) (by intro k st K h; split at h <;> first | exact h.elim | exact spec_l1From.l5_ok X0 hX n _ _ _ _ _ _ K h) (by kernel_rfl) h
def D7 (n : Nat) : CallF := fun f a K => match f, a with
  | 43, [.c (.dat 5 (.int .u8) a1)] => spec_l1From.c n a1 (fun r0 r1 r2 => K ⟨.tup [.agg [.int .i64 r0, .row ⟨52, .int .u64, r1, 99, none⟩], .c (.bool r2)], []⟩)
  | f, a => D6 n f a K
theorem D7_ok (X0 : CallF) (hX : CallF.Mono X0) (n : Nat) : ∀ f a K, D7 n f a K → callM C X0 n f a K := by
  intro f a K h
  unfold D7 at h
  split at h
  · exact spec_l1From_ok X0 hX n _ K h
  · exact D6_ok X0 hX n _ _ _ h
def spec_l1Rd_bits.j4 (again5 : Int → List Int → Prop) (x12 : Int) (x13 : Int) (x14 : List Int) (j26 : Int) : Prop :=
  if (decide (x12 = 1)) = true then (grd (decide (x14.length + ([1] : List (Int)).length ≤ 35184372088832)) (again5 (IntKind.wrap .i64 (x13 + 1)) (x14 ++ ([1] : List (Int))))) else (grd (decide (x14.length + ([j26] : List (Int)).length ≤ 35184372088832)) (again5 (IntKind.wrap .i64 (x13 + 1)) (x14 ++ ([j26] : List (Int)))))
def spec_l1Rd_bits.l5.b (n : Nat) (x10 : Int) (x11 : Int) (x12 : Int) (x15 : List Int) (x16 : List Int) (x17 : Int) (x18 : Int) (again5 : Int → List Int → Prop) (x13 : Int) (x14 : List Int) (Kx0w5 : List Int → List Int → List Int → Int → Int → Prop) : Prop :=
  if (decide (x13 < x10)) = true then (let t24 : Int := IntKind.wrap .u64 (Int.tmod (IntKind.wrap .i64 (x13 * 7)) 64); grd (decide (0 ≤ t24)) (let t25 : Int := Int.fdiv x11 (2 ^ (Nat.min (Int.toNat t24) 64)); if (decide (x12 = 0)) = true then (spec_l1Rd_bits.j4 again5 x12 x13 x14 0) else (spec_l1Rd_bits.j4 again5 x12 x13 x14 (IntKind.wrap .u8 (ibits .and .u64 t25 1))))) else (Kx0w5 x14 x15 x16 x17 x18)
def spec_l1Rd_bits.l5 : Nat → Int → Int → Int → List Int → List Int → Int → Int → Int → List Int → (List Int → List Int → List Int → Int → Int → Prop) → Prop
  | 0, _, _, _, _, _, _, _, _, _, _ => False
  | n + 1, x10, x11, x12, x15, x16, x17, x18, x13, x14, Kx0w5 => spec_l1Rd_bits.l5.b n  x10 x11 x12 x15 x16 x17 x18 (fun x13q x14q => spec_l1Rd_bits.l5 n x10 x11 x12 x15 x16 x17 x18 x13q x14q Kx0w5) x13 x14 Kx0w5
def spec_l1Rd_bits.w (n : Nat) (lp5 : Int → Int → Int → List Int → List Int → Int → Int → Int → List Int → (List Int → List Int → List Int → Int → Int → Prop) → Prop) (a1 : List Int) (a2 : Int) (a3 : Int) (K : Int → List Int → List Int → Int → Prop) : Prop :=
  spec_l1Rd_word.c n a1 a2 (fun r4 r5 r6 => spec_l1Rd_below.c n r5 r6 4 (fun r7 r8 r9 => lp5 a3 r4 r7 ([] : List (Int)) r8 r9 0 0 ([] : List (Int)) (fun y33 y34 y35 y36 y37 => spec_l1From.c n y33 (fun r38 r39 r40 => K r38 r39 y35 y36))))
def spec_l1Rd_bits.c : Nat → List Int → Int → Int → (Int → List Int → List Int → Int → Prop) → Prop
  | 0, _, _, _, _ => False
  | n + 1, a1, a2, a3, K => spec_l1Rd_bits.w n (spec_l1Rd_bits.l5 n) a1 a2 a3 K
theorem spec_l1Rd_bits.l5_ok (X0 : CallF) (hX : CallF.Mono X0) : ∀ (n : Nat) (x10 : Int) (x11 : Int) (x12 : Int) (x13 : Int) (x14 : List Int) (x15 : List Int) (x16 : List Int) (x17 : Int) (x18 : Int) (K : X → St → Prop), spec_l1Rd_bits.l5 n x10 x11 x12 x15 x16 x17 x18 x13 x14 (fun y0 y1 y2 y3 y4 => K (.exit 0) ⟨[(4, .c (.pbox 4 0)), (5, .c (.own 160))], [(160, ⟨5, .int .u8, y0, 99, none⟩), (1000129, ⟨52, .int .u64, y1, 99, none⟩)], [(0, ⟨71, [.dat 5 (.int .u8) y2, .int .i64 y3], false⟩), (4, ⟨26, [.int .i64 y4, .own 1000129], false⟩)], [], [0]⟩) → loopM C X0 n 40 5 ⟨[(1, .c (.int .i64 x10)), (4, .c (.pbox 4 0)), (5, .c (.own 160)), (6, .c (.int .u64 x11)), (7, .c (.int .i64 x12)), (8, .c (.int .i64 x13))], [(160, ⟨5, .int .u8, x14, 99, none⟩), (1000129, ⟨52, .int .u64, x15, 99, none⟩)], [(0, ⟨71, [.dat 5 (.int .u8) x16, .int .i64 x17], false⟩), (4, ⟨26, [.int .i64 x18, .own 1000129], false⟩)], [], [0]⟩ K := by
  intro n
  induction n with
  | zero => intros; exact absurd ‹_› id
  | succ n ih =>
    intro x10 x11 x12 x13 x14 x15 x16 x17 x18 K h
    refine loop_of (fn := Try.f40) (c := bodyOf Try.f40) (a := loopOf Try.f40 5) (li := liOf (C.fi 40).loops 5) hX (by kernel_rfl) (by kernel_rfl) (by kernel_rfl) (by kernel_rfl) (call := D7 n) (lp := fun _ _ _ => False) (again := fun st => match st with | ⟨[(1, .c (.int .i64 x10)), (4, .c (.pbox 4 0)), (5, .c (.own 160)), (6, .c (.int .u64 x11)), (7, .c (.int .i64 x12)), (8, .c (.int .i64 x13))], [(160, ⟨5, .int .u8, x14, 99, none⟩), (1000129, ⟨52, .int .u64, x15, 99, none⟩)], [(0, ⟨71, [.dat 5 (.int .u8) x16, .int .i64 x17], false⟩), (4, ⟨26, [.int .i64 x18, .own 1000129], false⟩)], [], [0]⟩ => spec_l1Rd_bits.l5 n x10 x11 x12 x15 x16 x17 x18 x13 x14 (fun y0 y1 y2 y3 y4 => K (.exit 0) ⟨[(4, .c (.pbox 4 0)), (5, .c (.own 160))], [(160, ⟨5, .int .u8, y0, 99, none⟩), (1000129, ⟨52, .int .u64, y1, 99, none⟩)], [(0, ⟨71, [.dat 5 (.int .u8) y2, .int .i64 y3], false⟩), (4, ⟨26, [.int .i64 y4, .own 1000129], false⟩)], [], [0]⟩) | _ => False) (D7_ok X0 hX n) (fun _ _ _ h => h.elim) ?_ (by kernel_rfl) h
    intro s hs

    split at hs
    · exact ih _ _ _ _ _ _ _ _ _ K hs
    · exact hs.elim
theorem spec_l1Rd_bits_ok (X0 : CallF) (hX : CallF.Mono X0) : ∀ (n : Nat) (a1 : List Int) (a2 : Int) (a3 : Int) (K : RES → Prop), spec_l1Rd_bits.c n a1 a2 a3 (fun r0 r1 r2 r3 => K ⟨.agg [.int .i64 r0, .row ⟨52, .int .u64, r1, 99, none⟩], [[.boxr 71 [.dat 5 (.int .u8) r2, .int .i64 r3]]]⟩) → callM C X0 n 40 [.c (.boxr 71 [.dat 5 (.int .u8) a1, .int .i64 a2]), .c (.int .i64 a3)] K := by
  intro n
  cases n with
  | zero => intros; exact absurd ‹_› id
  | succ n =>
    intro a1 a2 a3 K h
    exact call_of (fn := Try.f40) (c := bodyOf Try.f40) hX (by kernel_rfl) (by kernel_rfl) (call := D7 n) (lp := fun k st K => match k, st with | 5, ⟨[(1, .c (.int .i64 x10)), (4, .c (.pbox 4 0)), (5, .c (.own 160)), (6, .c (.int .u64 x11)), (7, .c (.int .i64 x12)), (8, .c (.int .i64 x13))], [(160, ⟨5, .int .u8, x14, 99, none⟩), (1000129, ⟨52, .int .u64, x15, 99, none⟩)], [(0, ⟨71, [.dat 5 (.int .u8) x16, .int .i64 x17], false⟩), (4, ⟨26, [.int .i64 x18, .own 1000129], false⟩)], [], [0]⟩ => spec_l1Rd_bits.l5 n x10 x11 x12 x15 x16 x17 x18 x13 x14 (fun y0 y1 y2 y3 y4 => K (.exit 0) ⟨[(4, .c (.pbox 4 0)), (5, .c (.own 160))], [(160, ⟨5, .int .u8, y0, 99, none⟩), (1000129, ⟨52, .int .u64, y1, 99, none⟩)], [(0, ⟨71, [.dat 5 (.int .u8) y2, .int .i64 y3], false⟩), (4, ⟨26, [.int .i64 y4, .own 1000129], false⟩)], [], [0]⟩) | _, _ => False) (D7_ok X0 hX n) (by intro k st K h; split at h <;> first | exact h.elim | exact spec_l1Rd_bits.l5_ok X0 hX n _ _ _ _ _ _ _ _ _ K h) (by kernel_rfl) h
def D8 (n : Nat) : CallF := fun f a K => match f, a with
  | 40, [.c (.boxr 71 [.dat 5 (.int .u8) a1, .int .i64 a2]), .c (.int .i64 a3)] => spec_l1Rd_bits.c n a1 a2 a3 (fun r0 r1 r2 r3 => K ⟨.agg [.int .i64 r0, .row ⟨52, .int .u64, r1, 99, none⟩], [[.boxr 71 [.dat 5 (.int .u8) r2, .int .i64 r3]]]⟩)
  | f, a => D7 n f a K
theorem D8_ok (X0 : CallF) (hX : CallF.Mono X0) (n : Nat) : ∀ f a K, D8 n f a K → callM C X0 n f a K := by
  intro f a K h
  unfold D8 at h
  split at h
  · exact spec_l1Rd_bits_ok X0 hX n _ _ _ K h
  · exact D7_ok X0 hX n _ _ _ h
def spec_l1Rd_once.w (n : Nat) (a1 : List Int) (a2 : Int) (a3 : Int) (K : Bool → List Int → Int → Prop) : Prop :=
  spec_l1Rd_below.c n a1 a2 a3 (fun r4 r5 r6 => K (decide (r4 = IntKind.wrap .i64 (a3 - 1))) r5 r6)
def spec_l1Rd_once.c : Nat → List Int → Int → Int → (Bool → List Int → Int → Prop) → Prop
  | 0, _, _, _, _ => False
  | n + 1, a1, a2, a3, K => spec_l1Rd_once.w n  a1 a2 a3 K
theorem spec_l1Rd_once_ok (X0 : CallF) (hX : CallF.Mono X0) : ∀ (n : Nat) (a1 : List Int) (a2 : Int) (a3 : Int) (K : RES → Prop), spec_l1Rd_once.c n a1 a2 a3 (fun r0 r1 r2 => K ⟨.c (.bool r0), [[.boxr 71 [.dat 5 (.int .u8) r1, .int .i64 r2]]]⟩) → callM C X0 n 39 [.c (.boxr 71 [.dat 5 (.int .u8) a1, .int .i64 a2]), .c (.int .i64 a3)] K := by
  intro n
  cases n with
  | zero => intros; exact absurd ‹_› id
  | succ n =>
    intro a1 a2 a3 K h
    exact call_of (fn := Try.f39) (c := bodyOf Try.f39) hX (by kernel_rfl) (by kernel_rfl) (call := D8 n) (lp := fun _ _ _ => False) (D8_ok X0 hX n) (fun _ _ _ h => h.elim) (by kernel_rfl) h
def D9 (n : Nat) : CallF := fun f a K => match f, a with
  | 39, [.c (.boxr 71 [.dat 5 (.int .u8) a1, .int .i64 a2]), .c (.int .i64 a3)] => spec_l1Rd_once.c n a1 a2 a3 (fun r0 r1 r2 => K ⟨.c (.bool r0), [[.boxr 71 [.dat 5 (.int .u8) r1, .int .i64 r2]]]⟩)
  | f, a => D8 n f a K
theorem D9_ok (X0 : CallF) (hX : CallF.Mono X0) (n : Nat) : ∀ f a K, D9 n f a K → callM C X0 n f a K := by
  intro f a K h
  unfold D9 at h
  split at h
  · exact spec_l1Rd_once_ok X0 hX n _ _ _ K h
  · exact D8_ok X0 hX n _ _ _ h
def spec_l1Rd_near.w (n : Nat) (a1 : List Int) (a2 : Int) (a3 : Int) (a4 : Int) (K : Int → List Int → Int → Prop) : Prop :=
  spec_l1Rd_below.c n a1 a2 8 (fun r8 r9 r10 => if (decide (r8 = 0)) = true then (K a3 r9 r10) else (if (decide (r8 = 1)) = true then (K a4 r9 r10) else (if (decide (a4 < a3)) = true then (K a3 r9 r10) else (spec_l1Rd_word.c n r9 r10 (fun r11 r12 r13 => let t14 : Int := IntKind.wrap .i64 ((IntKind.wrap .i64 (a4 - a3)) + 1); grd (!(decide (IntKind.wrap .u64 t14 = 0))) (let t15 : Int := Int.tmod (Int.fdiv r11 (2 ^ 1)) (IntKind.wrap .u64 t14); let t16 : Int := IntKind.wrap .i64 (a3 + (IntKind.wrap .i64 t15)); K t16 r12 r13))))))
def spec_l1Rd_near.c : Nat → List Int → Int → Int → Int → (Int → List Int → Int → Prop) → Prop
  | 0, _, _, _, _, _ => False
  | n + 1, a1, a2, a3, a4, K => spec_l1Rd_near.w n  a1 a2 a3 a4 K
theorem spec_l1Rd_near_ok (X0 : CallF) (hX : CallF.Mono X0) : ∀ (n : Nat) (a1 : List Int) (a2 : Int) (a3 : Int) (a4 : Int) (K : RES → Prop), spec_l1Rd_near.c n a1 a2 a3 a4 (fun r0 r1 r2 => K ⟨.c (.int .i64 r0), [[.boxr 71 [.dat 5 (.int .u8) r1, .int .i64 r2]]]⟩) → callM C X0 n 62 [.c (.boxr 71 [.dat 5 (.int .u8) a1, .int .i64 a2]), .c (.int .i64 a3), .c (.int .i64 a4)] K := by
  intro n
  cases n with
  | zero => intros; exact absurd ‹_› id
  | succ n =>
    intro a1 a2 a3 a4 K h
    exact call_of (fn := Try.f62) (c := bodyOf Try.f62) hX (by kernel_rfl) (by kernel_rfl) (call := D9 n) (lp := fun _ _ _ => False) (D9_ok X0 hX n) (fun _ _ _ h => h.elim) (by kernel_rfl) h
def D10 (n : Nat) : CallF := fun f a K => match f, a with
  | 62, [.c (.boxr 71 [.dat 5 (.int .u8) a1, .int .i64 a2]), .c (.int .i64 a3), .c (.int .i64 a4)] => spec_l1Rd_near.c n a1 a2 a3 a4 (fun r0 r1 r2 => K ⟨.c (.int .i64 r0), [[.boxr 71 [.dat 5 (.int .u8) r1, .int .i64 r2]]]⟩)
  | f, a => D9 n f a K
theorem D10_ok (X0 : CallF) (hX : CallF.Mono X0) (n : Nat) : ∀ f a K, D10 n f a K → callM C X0 n f a K := by
  intro f a K h
  unfold D10 at h
  split at h
  · exact spec_l1Rd_near_ok X0 hX n _ _ _ _ K h
  · exact D9_ok X0 hX n _ _ _ h
def spec_l1Rd_off.w (n : Nat) (a1 : List Int) (a2 : Int) (a3 : Int) (a4 : Int) (K : Int → List Int → Int → Prop) : Prop :=
  spec_l1Rd_once.c n a1 a2 24 (fun r12 r13 r14 => if r12 = true then (let t15 : List Int := ([IntKind.wrap .i64 (a3 - 1), IntKind.wrap .i64 (a4 + 1), (-9223372036854775808), 9223372036854775807] : List (Int)); spec_l1Rd_below.c n r13 r14 4 (fun r16 r17 r18 => grd (decide (0 ≤ r16) && decide (r16 < (t15.length : Int))) (K (rd t15 (Int.toNat r16)) r17 r18))) else (spec_l1Rd_near.c n r13 r14 a3 a4 (fun r19 r20 r21 => K r19 r20 r21)))
def spec_l1Rd_off.c : Nat → List Int → Int → Int → Int → (Int → List Int → Int → Prop) → Prop
  | 0, _, _, _, _, _ => False
  | n + 1, a1, a2, a3, a4, K => spec_l1Rd_off.w n  a1 a2 a3 a4 K
theorem spec_l1Rd_off_ok (X0 : CallF) (hX : CallF.Mono X0) : ∀ (n : Nat) (a1 : List Int) (a2 : Int) (a3 : Int) (a4 : Int) (K : RES → Prop), spec_l1Rd_off.c n a1 a2 a3 a4 (fun r0 r1 r2 => K ⟨.c (.int .i64 r0), [[.boxr 71 [.dat 5 (.int .u8) r1, .int .i64 r2]]]⟩) → callM C X0 n 52 [.c (.boxr 71 [.dat 5 (.int .u8) a1, .int .i64 a2]), .c (.int .i64 a3), .c (.int .i64 a4)] K := by
  intro n
  cases n with
  | zero => intros; exact absurd ‹_› id
  | succ n =>
    intro a1 a2 a3 a4 K h
    exact call_of (fn := Try.f52) (c := bodyOf Try.f52) hX (by kernel_rfl) (by kernel_rfl) (call := D10 n) (lp := fun _ _ _ => False) (D10_ok X0 hX n) (fun _ _ _ h => h.elim) (by kernel_rfl) h
def D11 (n : Nat) : CallF := fun f a K => match f, a with
  | 52, [.c (.boxr 71 [.dat 5 (.int .u8) a1, .int .i64 a2]), .c (.int .i64 a3), .c (.int .i64 a4)] => spec_l1Rd_off.c n a1 a2 a3 a4 (fun r0 r1 r2 => K ⟨.c (.int .i64 r0), [[.boxr 71 [.dat 5 (.int .u8) r1, .int .i64 r2]]]⟩)
  | f, a => D10 n f a K
theorem D11_ok (X0 : CallF) (hX : CallF.Mono X0) (n : Nat) : ∀ f a K, D11 n f a K → callM C X0 n f a K := by
  intro f a K h
  unfold D11 at h
  split at h
  · exact spec_l1Rd_off_ok X0 hX n _ _ _ _ K h
  · exact D10_ok X0 hX n _ _ _ h
def spec_l1Rd_oddBits.w (n : Nat) (a1 : List Int) (a2 : Int) (K : Int → List Int → List Int → Int → Prop) : Prop :=
  spec_l1Rd_wide.c n a1 a2 (fun r3 r4 r5 => spec_l1Rd_bits.c n r4 r5 r3 (fun r6 r7 r8 r9 => spec_l1Rd_below.c n r8 r9 30 (fun r49 r50 r51 => if (decide (r49 = 0)) = true then (K (IntKind.wrap .i64 (r6 + 1)) r7 r50 r51) else (if (decide (r49 = 1)) = true then (grd (decide (r7.length + ([0] : List (Int)).length ≤ 7818749353073)) (K r6 (r7 ++ ([0] : List (Int))) r50 r51)) else (if (decide (r49 = 2)) = true then (((spec_l1Rd_word.c n r50 r51 (fun r52 r53 r54 => grd (decide (0 ≤ IntKind.wrap .i64 ((r7.length : Int) - 1)) && decide (IntKind.wrap .i64 ((r7.length : Int) - 1) < (r7.length : Int))) (let t55 : Nat := Int.toNat (IntKind.wrap .i64 ((r7.length : Int) - 1)); K r6 (List.set r7 t55 r52) r53 r54))) ∧ (spec_l1Rd_word.c n r50 r51 (fun r56 r57 r58 => grd (decide (0 ≤ IntKind.wrap .i64 ((r7.length : Int) - 1)) && decide (IntKind.wrap .i64 ((r7.length : Int) - 1) < (r7.length : Int))) (let t59 : Nat := Int.toNat (IntKind.wrap .i64 ((r7.length : Int) - 1)); K r6 (List.set r7 t59 r56) r57 r58)))) ∧ ((spec_l1Rd_word.c n r50 r51 (fun r60 r61 r62 => grd (decide (0 ≤ IntKind.wrap .i64 ((r7.length : Int) - 1)) && decide (IntKind.wrap .i64 ((r7.length : Int) - 1) < (r7.length : Int))) (let t63 : Nat := Int.toNat (IntKind.wrap .i64 ((r7.length : Int) - 1)); K r6 (List.set r7 t63 r60) r61 r62))) ∧ (spec_l1Rd_word.c n r50 r51 (fun r64 r65 r66 => grd (decide (0 ≤ IntKind.wrap .i64 ((r7.length : Int) - 1)) && decide (IntKind.wrap .i64 ((r7.length : Int) - 1) < (r7.length : Int))) (let t67 : Nat := Int.toNat (IntKind.wrap .i64 ((r7.length : Int) - 1)); K r6 (List.set r7 t67 r64) r65 r66)))) ∧ (spec_l1Rd_word.c n r50 r51 (fun r68 r69 r70 => grd (decide (0 ≤ IntKind.wrap .i64 ((r7.length : Int) - 1)) && decide (IntKind.wrap .i64 ((r7.length : Int) - 1) < (r7.length : Int))) (let t71 : Nat := Int.toNat (IntKind.wrap .i64 ((r7.length : Int) - 1)); K r6 (List.set r7 t71 r68) r69 r70)))) else (if (decide (r49 = 3)) = true then (spec_l1Rd_off.c n r50 r51 0 4096 (fun r72 r73 r74 => K r72 r7 r73 r74)) else (if (decide (r49 = 4)) = true then ((spec_l1Rd_below.c n r50 r51 2 (fun r75 r76 r77 => K (IntKind.wrap .i64 (4096 + r75)) (List.replicate 64 0) r76 r77)) ∧ (spec_l1Rd_below.c n r50 r51 2 (fun r78 r79 r80 => K (IntKind.wrap .i64 (4096 + r78)) (List.replicate 64 0) r79 r80))) else (K r6 r7 r50 r51))))))))
def spec_l1Rd_oddBits.c : Nat → List Int → Int → (Int → List Int → List Int → Int → Prop) → Prop
  | 0, _, _, _ => False
  | n + 1, a1, a2, K => spec_l1Rd_oddBits.w n  a1 a2 K
theorem spec_l1Rd_oddBits_ok (X0 : CallF) (hX : CallF.Mono X0) : ∀ (n : Nat) (a1 : List Int) (a2 : Int) (K : RES → Prop), spec_l1Rd_oddBits.c n a1 a2 (fun r0 r1 r2 r3 => K ⟨.agg [.int .i64 r0, .row ⟨52, .int .u64, r1, 99, none⟩], [[.boxr 71 [.dat 5 (.int .u8) r2, .int .i64 r3]]]⟩) → callM C X0 n 31 [.c (.boxr 71 [.dat 5 (.int .u8) a1, .int .i64 a2])] K := by
  intro n
  cases n with
  | zero => intros; exact absurd ‹_› id
  | succ n =>
    intro a1 a2 K h
    exact call_of (fn := Try.f31) (c := bodyOf Try.f31) hX (by kernel_rfl) (by kernel_rfl) (call := D11 n) (lp := fun _ _ _ => False) (D11_ok X0 hX n) (fun _ _ _ h => h.elim) (by kernel_rfl) h
def D12 (n : Nat) : CallF := fun f a K => match f, a with
  | 31, [.c (.boxr 71 [.dat 5 (.int .u8) a1, .int .i64 a2])] => spec_l1Rd_oddBits.c n a1 a2 (fun r0 r1 r2 r3 => K ⟨.agg [.int .i64 r0, .row ⟨52, .int .u64, r1, 99, none⟩], [[.boxr 71 [.dat 5 (.int .u8) r2, .int .i64 r3]]]⟩)
  | f, a => D11 n f a K
theorem D12_ok (X0 : CallF) (hX : CallF.Mono X0) (n : Nat) : ∀ f a K, D12 n f a K → callM C X0 n f a K := by
  intro f a K h
  unfold D12 at h
  split at h
  · exact spec_l1Rd_oddBits_ok X0 hX n _ _ K h
  · exact D11_ok X0 hX n _ _ _ h
def spec_DrawBitsOk.w (n : Nat) (a1 : List Int) (K : Int → List Int → Prop) : Prop :=
  spec_l1Open.c n a1 (fun r2 r3 => spec_l1Rd_oddBits.c n r2 r3 (fun r4 r5 r6 r7 => K r4 r5))
def spec_DrawBitsOk.c : Nat → List Int → (Int → List Int → Prop) → Prop
  | 0, _, _ => False
  | n + 1, a1, K => spec_DrawBitsOk.w n  a1 K
theorem spec_DrawBitsOk_ok (X0 : CallF) (hX : CallF.Mono X0) : ∀ (n : Nat) (a1 : List Int) (K : RES → Prop), spec_DrawBitsOk.c n a1 (fun r0 r1 => K ⟨.agg [.int .i64 r0, .row ⟨52, .int .u64, r1, 99, none⟩], []⟩) → callM C X0 n 8 [.c (.dat 5 (.int .u8) a1)] K := by
  intro n
  cases n with
  | zero => intros; exact absurd ‹_› id
  | succ n =>
    intro a1 K h
    exact call_of (fn := Try.f8) (c := bodyOf Try.f8) hX (by kernel_rfl) (by kernel_rfl) (call := D12 n) (lp := fun _ _ _ => False) (D12_ok X0 hX n) (fun _ _ _ h => h.elim) (by kernel_rfl) h
def D13 (n : Nat) : CallF := fun f a K => match f, a with
  | 8, [.c (.dat 5 (.int .u8) a1)] => spec_DrawBitsOk.c n a1 (fun r0 r1 => K ⟨.agg [.int .i64 r0, .row ⟨52, .int .u64, r1, 99, none⟩], []⟩)
  | f, a => D12 n f a K
theorem D13_ok (X0 : CallF) (hX : CallF.Mono X0) (n : Nat) : ∀ f a K, D13 n f a K → callM C X0 n f a K := by
  intro f a K h
  unfold D13 at h
  split at h
  · exact spec_DrawBitsOk_ok X0 hX n _ K h
  · exact D12_ok X0 hX n _ _ _ h
def spec_l1In.w (n : Nat) (a1 : Int) (a2 : Int) (a3 : Int) (K : Bool → Prop) : Prop :=
  if (decide (a1 ≥ a2)) = true then (K (decide (a1 ≤ a3))) else (K false)
def spec_l1In.c : Nat → Int → Int → Int → (Bool → Prop) → Prop
  | 0, _, _, _, _ => False
  | n + 1, a1, a2, a3, K => spec_l1In.w n  a1 a2 a3 K
theorem spec_l1In_ok (X0 : CallF) (hX : CallF.Mono X0) : ∀ (n : Nat) (a1 : Int) (a2 : Int) (a3 : Int) (K : RES → Prop), spec_l1In.c n a1 a2 a3 (fun r0 => K ⟨.c (.bool r0), []⟩) → callM C X0 n 32 [.c (.int .i64 a1), .c (.int .i64 a2), .c (.int .i64 a3)] K := by
  intro n
  cases n with
  | zero => intros; exact absurd ‹_› id
  | succ n =>
    intro a1 a2 a3 K h
    exact call_of (fn := Try.f32) (c := bodyOf Try.f32) hX (by kernel_rfl) (by kernel_rfl) (call := D13 n) (lp := fun _ _ _ => False) (D13_ok X0 hX n) (fun _ _ _ h => h.elim) (by kernel_rfl) h
def D14 (n : Nat) : CallF := fun f a K => match f, a with
  | 32, [.c (.int .i64 a1), .c (.int .i64 a2), .c (.int .i64 a3)] => spec_l1In.c n a1 a2 a3 (fun r0 => K ⟨.c (.bool r0), []⟩)
  | f, a => D13 n f a K
theorem D14_ok (X0 : CallF) (hX : CallF.Mono X0) (n : Nat) : ∀ f a K, D14 n f a K → callM C X0 n f a K := by
  intro f a K h
  unfold D14 at h
  split at h
  · exact spec_l1In_ok X0 hX n _ _ _ K h
  · exact D13_ok X0 hX n _ _ _ h
def spec_l1Bit.w (n : Nat) (a1 : Int) (a2 : List Int) (a3 : Int) (K : Int → Prop) : Prop :=
  grd (decide (0 ≤ IntKind.wrap .i64 (Int.tdiv a3 64)) && decide (IntKind.wrap .i64 (Int.tdiv a3 64) < (a2.length : Int))) (let t4 : Int := rd a2 (Int.toNat (IntKind.wrap .i64 (Int.tdiv a3 64))); grd (decide (0 ≤ IntKind.wrap .u64 (Int.tmod a3 64))) (let t5 : Int := Int.fdiv t4 (2 ^ (Nat.min (Int.toNat (IntKind.wrap .u64 (Int.tmod a3 64))) 64)); K (IntKind.wrap .u8 (ibits .and .u64 t5 1))))
def spec_l1Bit.c : Nat → Int → List Int → Int → (Int → Prop) → Prop
  | 0, _, _, _, _ => False
  | n + 1, a1, a2, a3, K => spec_l1Bit.w n  a1 a2 a3 K
theorem spec_l1Bit_ok (X0 : CallF) (hX : CallF.Mono X0) : ∀ (n : Nat) (a1 : Int) (a2 : List Int) (a3 : Int) (K : RES → Prop), spec_l1Bit.c n a1 a2 a3 (fun r0 => K ⟨.c (.int .u8 r0), []⟩) → callM C X0 n 33 [.agg [.int .i64 a1, .dat 52 (.int .u64) a2], .c (.int .i64 a3)] K := by
  intro n
  cases n with
  | zero => intros; exact absurd ‹_› id
  | succ n =>
    intro a1 a2 a3 K h
    exact call_of (fn := Try.f33) (c := bodyOf Try.f33) hX (by kernel_rfl) (by kernel_rfl) (call := D14 n) (lp := fun _ _ _ => False) (D14_ok X0 hX n) (fun _ _ _ h => h.elim) (by kernel_rfl) h
def D15 (n : Nat) : CallF := fun f a K => match f, a with
  | 33, [.agg [.int .i64 a1, .dat 52 (.int .u64) a2], .c (.int .i64 a3)] => spec_l1Bit.c n a1 a2 a3 (fun r0 => K ⟨.c (.int .u8 r0), []⟩)
  | f, a => D14 n f a K
theorem D15_ok (X0 : CallF) (hX : CallF.Mono X0) (n : Nat) : ∀ f a K, D15 n f a K → callM C X0 n f a K := by
  intro f a K h
  unfold D15 at h
  split at h
  · exact spec_l1Bit_ok X0 hX n _ _ _ K h
  · exact D14_ok X0 hX n _ _ _ h
def spec_BitsOk.l4.b (n : Nat) (x9 : Int) (x10 : List Int) (again4 : Int → Prop) (x8 : Int) (Kx0w4 : Prop) (Kr4 : Bool → Prop) : Prop :=
  let t12 : Bool := decide (x8 < IntKind.wrap .i64 (64 * (x10.length : Int))); if t12 = true then (spec_l1Bit.c n x9 x10 x8 (fun r14 => if (!(decide (r14 = 0))) = true then (Kr4 false) else (again4 (IntKind.wrap .i64 (x8 + 1))))) else (Kx0w4)
def spec_BitsOk.l4 : Nat → Int → List Int → Int → Prop → (Bool → Prop) → Prop
  | 0, _, _, _, _, _ => False
  | n + 1, x9, x10, x8, Kx0w4, Kr4 => spec_BitsOk.l4.b n  x9 x10 (fun x8q => spec_BitsOk.l4 n x9 x10 x8q Kx0w4 Kr4) x8 Kx0w4 Kr4
def spec_BitsOk.w (n : Nat) (lp4 : Int → List Int → Int → Prop → (Bool → Prop) → Prop) (a1 : Int) (a2 : List Int) (K : Bool → Prop) : Prop :=
  spec_l1In.c n a1 1 4096 (fun r22 => if (!r22) = false then (let t23 : Int := IntKind.wrap .i64 (Int.tdiv (IntKind.wrap .i64 (a1 + 63)) 64); if (!(decide ((a2.length : Int) = t23))) = true then (K false) else (lp4 a1 a2 a1 (K true) (fun y25 => K y25))) else (K false))
def spec_BitsOk.c : Nat → Int → List Int → (Bool → Prop) → Prop
  | 0, _, _, _ => False
  | n + 1, a1, a2, K => spec_BitsOk.w n (spec_BitsOk.l4 n) a1 a2 K
theorem spec_BitsOk.l4_ok (X0 : CallF) (hX : CallF.Mono X0) : ∀ (n : Nat) (x8 : Int) (x9 : Int) (x10 : List Int) (K : X → St → Prop), spec_BitsOk.l4 n x9 x10 x8 (K (.exit 0) ⟨[], [], [], [], []⟩) (fun y0 => K .ret ⟨[(2, .c (.bool y0))], [], [], [], []⟩) → loopM C X0 n 9 4 ⟨[(1, .c (.pbox 1 0)), (3, .c (.int .i64 x8))], [], [(1, ⟨26, [.int .i64 x9, .dat 52 (.int .u64) x10], false⟩)], [], []⟩ K := by
  intro n
  induction n with
  | zero => intros; exact absurd ‹_› id
  | succ n ih =>
    intro x8 x9 x10 K h
    refine loop_of (fn := Try.f9) (c := bodyOf Try.f9) (a := loopOf Try.f9 4) (li := liOf (C.fi 9).loops 4) hX (by kernel_rfl) (by kernel_rfl) (by kernel_rfl) (by kernel_rfl) (call := D15 n) (lp := fun _ _ _ => False) (again := fun st => match st with | ⟨[(1, .c (.pbox 1 0)), (3, .c (.int .i64 x8))], [], [(1, ⟨26, [.int .i64 x9, .dat 52 (.int .u64) x10], false⟩)], [], []⟩ => spec_BitsOk.l4 n x9 x10 x8 (K (.exit 0) ⟨[], [], [], [], []⟩) (fun y0 => K .ret ⟨[(2, .c (.bool y0))], [], [], [], []⟩) | _ => False) (D15_ok X0 hX n) (fun _ _ _ h => h.elim) ?_ (by kernel_rfl) h
    intro s hs

    split at hs
    · exact ih _ _ _ K hs
    · exact hs.elim
theorem spec_BitsOk_ok (X0 : CallF) (hX : CallF.Mono X0) : ∀ (n : Nat) (a1 : Int) (a2 : List Int) (K : RES → Prop), spec_BitsOk.c n a1 a2 (fun r0 => K ⟨.c (.bool r0), []⟩) → callM C X0 n 9 [.agg [.int .i64 a1, .dat 52 (.int .u64) a2]] K := by
  intro n
  cases n with
  | zero => intros; exact absurd ‹_› id
  | succ n =>
    intro a1 a2 K h
    exact call_of (fn := Try.f9) (c := bodyOf Try.f9) hX (by kernel_rfl) (by kernel_rfl) (call := D15 n) (lp := fun k st K => match k, st with | 4, ⟨[(1, .c (.pbox 1 0)), (3, .c (.int .i64 x8))], [], [(1, ⟨26, [.int .i64 x9, .dat 52 (.int .u64) x10], false⟩)], [], []⟩ => spec_BitsOk.l4 n x9 x10 x8 (K (.exit 0) ⟨[], [], [], [], []⟩) (fun y0 => K .ret ⟨[(2, .c (.bool y0))], [], [], [], []⟩) | _, _ => False) (D15_ok X0 hX n) (by intro k st K h; split at h <;> first | exact h.elim | exact spec_BitsOk.l4_ok X0 hX n _ _ _ K h) (by kernel_rfl) h
def D16 (n : Nat) : CallF := fun f a K => match f, a with
  | 9, [.agg [.int .i64 a1, .dat 52 (.int .u64) a2]] => spec_BitsOk.c n a1 a2 (fun r0 => K ⟨.c (.bool r0), []⟩)
  | f, a => D15 n f a K
theorem D16_ok (X0 : CallF) (hX : CallF.Mono X0) (n : Nat) : ∀ f a K, D16 n f a K → callM C X0 n f a K := by
  intro f a K h
  unfold D16 at h
  split at h
  · exact spec_BitsOk_ok X0 hX n _ _ K h
  · exact D15_ok X0 hX n _ _ _ h

end Go.Vsi
end

section
set_option linter.unusedVariables false
namespace Go.Vsi
open Go.Proofs

def impl_inside.w (n : Nat) (a1 : Int) (a2 : Int) (a3 : Int) (K : Bool → Prop) : Prop :=
  if (decide (a1 ≥ a2)) = true then (K (decide (a1 ≤ a3))) else (K false)
def impl_inside.c : Nat → Int → Int → Int → (Bool → Prop) → Prop
  | 0, _, _, _, _ => False
  | n + 1, a1, a2, a3, K => impl_inside.w n  a1 a2 a3 K
theorem impl_inside_ok (X0 : CallF) (hX : CallF.Mono X0) : ∀ (n : Nat) (a1 : Int) (a2 : Int) (a3 : Int) (K : RES → Prop), impl_inside.c n a1 a2 a3 (fun r0 => K ⟨.c (.bool r0), []⟩) → callM C X0 n 34 [.c (.int .i64 a1), .c (.int .i64 a2), .c (.int .i64 a3)] K := by
  intro n
  cases n with
  | zero => intros; exact absurd ‹_› id
  | succ n =>
    intro a1 a2 a3 K h
    exact call_of (fn := Try.f34) (c := bodyOf Try.f34) hX (by kernel_rfl) (by kernel_rfl) (call := D16 n) (lp := fun _ _ _ => False) (D16_ok X0 hX n) (fun _ _ _ h => h.elim) (by kernel_rfl) h
def D17 (n : Nat) : CallF := fun f a K => match f, a with
  | 34, [.c (.int .i64 a1), .c (.int .i64 a2), .c (.int .i64 a3)] => impl_inside.c n a1 a2 a3 (fun r0 => K ⟨.c (.bool r0), []⟩)
  | f, a => D16 n f a K
theorem D17_ok (X0 : CallF) (hX : CallF.Mono X0) (n : Nat) : ∀ f a K, D17 n f a K → callM C X0 n f a K := by
  intro f a K h
  unfold D17 at h
  split at h
  · exact impl_inside_ok X0 hX n _ _ _ K h
  · exact D16_ok X0 hX n _ _ _ h
def impl_wordsFor.w (n : Nat) (a1 : Int) (K : Int → Prop) : Prop :=
  let t2 : Int := IntKind.wrap .i64 (Int.tdiv (IntKind.wrap .i64 (a1 + 63)) 64); K t2
def impl_wordsFor.c : Nat → Int → (Int → Prop) → Prop
  | 0, _, _ => False
  | n + 1, a1, K => impl_wordsFor.w n  a1 K
theorem impl_wordsFor_ok (X0 : CallF) (hX : CallF.Mono X0) : ∀ (n : Nat) (a1 : Int) (K : RES → Prop), impl_wordsFor.c n a1 (fun r0 => K ⟨.c (.int .i64 r0), []⟩) → callM C X0 n 35 [.c (.int .i64 a1)] K := by
  intro n
  cases n with
  | zero => intros; exact absurd ‹_› id
  | succ n =>
    intro a1 K h
    exact call_of (fn := Try.f35) (c := bodyOf Try.f35) hX (by kernel_rfl) (by kernel_rfl) (call := D17 n) (lp := fun _ _ _ => False) (D17_ok X0 hX n) (fun _ _ _ h => h.elim) (by kernel_rfl) h
def D18 (n : Nat) : CallF := fun f a K => match f, a with
  | 35, [.c (.int .i64 a1)] => impl_wordsFor.c n a1 (fun r0 => K ⟨.c (.int .i64 r0), []⟩)
  | f, a => D17 n f a K
theorem D18_ok (X0 : CallF) (hX : CallF.Mono X0) (n : Nat) : ∀ f a K, D18 n f a K → callM C X0 n f a K := by
  intro f a K h
  unfold D18 at h
  split at h
  · exact impl_wordsFor_ok X0 hX n _ K h
  · exact D17_ok X0 hX n _ _ _ h
def impl_BitsOk.j0 (K : Bool → Prop) (a1 : Int) (a2 : List Int) : Prop :=
  if (decide (Int.tmod a1 64 = 0)) = false then (grd (decide (0 ≤ IntKind.wrap .i64 ((a2.length : Int) - 1)) && decide (IntKind.wrap .i64 ((a2.length : Int) - 1) < (a2.length : Int))) (let t13 : Int := rd a2 (Int.toNat (IntKind.wrap .i64 ((a2.length : Int) - 1))); grd (decide (0 ≤ Int.tmod a1 64)) (let t14 : Int := Int.fdiv t13 (2 ^ (Nat.min (Int.toNat (Int.tmod a1 64)) 64)); K (decide (t14 = 0))))) else (K true)
def impl_BitsOk.w (n : Nat) (a1 : Int) (a2 : List Int) (K : Bool → Prop) : Prop :=
  impl_inside.c n a1 1 4096 (fun r19 => if (!r19) = false then ((impl_wordsFor.c n a1 (fun r20 => if (!(decide ((a2.length : Int) = r20))) = true then (K false) else (impl_BitsOk.j0 K a1 a2))) ∧ (impl_wordsFor.c n a1 (fun r21 => if (!(decide ((a2.length : Int) = r21))) = true then (K false) else (impl_BitsOk.j0 K a1 a2)))) else ((K false) ∧ (K false)))
def impl_BitsOk.c : Nat → Int → List Int → (Bool → Prop) → Prop
  | 0, _, _, _ => False
  | n + 1, a1, a2, K => impl_BitsOk.w n  a1 a2 K
theorem impl_BitsOk_ok (X0 : CallF) (hX : CallF.Mono X0) : ∀ (n : Nat) (a1 : Int) (a2 : List Int) (K : RES → Prop), impl_BitsOk.c n a1 a2 (fun r0 => K ⟨.c (.bool r0), []⟩) → callM C X0 n 10 [.agg [.int .i64 a1, .dat 52 (.int .u64) a2]] K := by
  intro n
  cases n with
  | zero => intros; exact absurd ‹_› id
  | succ n =>
    intro a1 a2 K h
    exact call_of (fn := Try.f10) (c := bodyOf Try.f10) hX (by kernel_rfl) (by kernel_rfl) (call := D18 n) (lp := fun _ _ _ => False) (D18_ok X0 hX n) (fun _ _ _ h => h.elim) (by kernel_rfl) h
def D19 (n : Nat) : CallF := fun f a K => match f, a with
  | 10, [.agg [.int .i64 a1, .dat 52 (.int .u64) a2]] => impl_BitsOk.c n a1 a2 (fun r0 => K ⟨.c (.bool r0), []⟩)
  | f, a => D18 n f a K
theorem D19_ok (X0 : CallF) (hX : CallF.Mono X0) (n : Nat) : ∀ f a K, D19 n f a K → callM C X0 n f a K := by
  intro f a K h
  unfold D19 at h
  split at h
  · exact impl_BitsOk_ok X0 hX n _ _ K h
  · exact D18_ok X0 hX n _ _ _ h
def impl_zeroBits.w (n : Nat) (a1 : Int) (K : Int → List Int → Prop) : Prop :=
  impl_wordsFor.c n a1 (fun r2 => grd ((decide (0 ≤ r2) && decide (r2 ≤ 7818749353073)) && decide (r2 = r2)) (K a1 (List.replicate (Int.toNat r2) 0)))
def impl_zeroBits.c : Nat → Int → (Int → List Int → Prop) → Prop
  | 0, _, _ => False
  | n + 1, a1, K => impl_zeroBits.w n  a1 K
theorem impl_zeroBits_ok (X0 : CallF) (hX : CallF.Mono X0) : ∀ (n : Nat) (a1 : Int) (K : RES → Prop), impl_zeroBits.c n a1 (fun r0 r1 => K ⟨.agg [.int .i64 r0, .row ⟨52, .int .u64, r1, 99, none⟩], []⟩) → callM C X0 n 45 [.c (.int .i64 a1)] K := by
  intro n
  cases n with
  | zero => intros; exact absurd ‹_› id
  | succ n =>
    intro a1 K h
    exact call_of (fn := Try.f45) (c := bodyOf Try.f45) hX (by kernel_rfl) (by kernel_rfl) (call := D19 n) (lp := fun _ _ _ => False) (D19_ok X0 hX n) (fun _ _ _ h => h.elim) (by kernel_rfl) h
def D20 (n : Nat) : CallF := fun f a K => match f, a with
  | 45, [.c (.int .i64 a1)] => impl_zeroBits.c n a1 (fun r0 r1 => K ⟨.agg [.int .i64 r0, .row ⟨52, .int .u64, r1, 99, none⟩], []⟩)
  | f, a => D19 n f a K
theorem D20_ok (X0 : CallF) (hX : CallF.Mono X0) (n : Nat) : ∀ f a K, D20 n f a K → callM C X0 n f a K := by
  intro f a K h
  unfold D20 at h
  split at h
  · exact impl_zeroBits_ok X0 hX n _ K h
  · exact D19_ok X0 hX n _ _ _ h
def impl_Bits_cut.j3 (again3 : Int → List Int → Prop) (t30 : Int) (t34 : Int) (x10 : Int) (x11 : List Int) (x14 : List Int) (j36 : Bool) : Prop :=
  if j36 = true then (grd (decide (0 ≤ x10) && decide (x10 < ((List.set x11 (Int.toNat x10) t34).length : Int))) (let t37 : Int := rd (List.set x11 (Int.toNat x10) t34) (Int.toNat x10); let t38 : Int := IntKind.wrap .i64 ((IntKind.wrap .i64 (Int.tdiv t30 64)) + 1); grd (decide (0 ≤ t38) && decide (t38 < (x14.length : Int))) (grd (decide (0 ≤ IntKind.wrap .i64 (64 - (Int.tmod t30 64)))) (let t39 : Int := IntKind.wrap .u64 ((rd x14 (Int.toNat t38)) * 2 ^ (Nat.min (Int.toNat (IntKind.wrap .i64 (64 - (Int.tmod t30 64)))) 64)); grd (decide (0 ≤ x10) && decide (x10 < ((List.set x11 (Int.toNat x10) t34).length : Int))) (let t40 : List Int := List.set (List.set x11 (Int.toNat x10) t34) (Int.toNat x10) (ibits .or .u64 t37 t39); again3 (IntKind.wrap .i64 (x10 + 1)) t40))))) else (again3 (IntKind.wrap .i64 (x10 + 1)) (List.set x11 (Int.toNat x10) t34))
def impl_Bits_cut.l3.b (n : Nat) (x7 : Int) (x8 : Int) (x9 : Int) (x12 : List Int) (x13 : Int) (x14 : List Int) (x15 : Int) (x16 : Int) (again3 : Int → List Int → Prop) (x10 : Int) (x11 : List Int) (Kx0w3 : Int → List Int → List Int → Int → Int → Prop) : Prop :=
  if (decide (x10 < x9)) = true then (let t30 : Int := IntKind.wrap .i64 (x7 + (IntKind.wrap .i64 (64 * x10))); grd (decide (0 ≤ IntKind.wrap .i64 (Int.tdiv t30 64)) && decide (IntKind.wrap .i64 (Int.tdiv t30 64) < (x14.length : Int))) (let t33 : Int := rd x14 (Int.toNat (IntKind.wrap .i64 (Int.tdiv t30 64))); grd (decide (0 ≤ Int.tmod t30 64)) (let t34 : Int := Int.fdiv t33 (2 ^ (Nat.min (Int.toNat (Int.tmod t30 64)) 64)); grd (decide (0 ≤ x10) && decide (x10 < (x11.length : Int))) (if (!(decide (Int.tmod t30 64 = 0))) = true then (let t41 : Int := IntKind.wrap .i64 ((IntKind.wrap .i64 (Int.tdiv t30 64)) + 1); impl_Bits_cut.j3 again3 t30 t34 x10 x11 x14 (decide (t41 < (x14.length : Int)))) else (impl_Bits_cut.j3 again3 t30 t34 x10 x11 x14 false))))) else (Kx0w3 x8 x11 x12 x15 x16)
def impl_Bits_cut.l3 : Nat → Int → Int → Int → List Int → Int → List Int → Int → Int → Int → List Int → (Int → List Int → List Int → Int → Int → Prop) → Prop
  | 0, _, _, _, _, _, _, _, _, _, _, _ => False
  | n + 1, x7, x8, x9, x12, x13, x14, x15, x16, x10, x11, Kx0w3 => impl_Bits_cut.l3.b n  x7 x8 x9 x12 x13 x14 x15 x16 (fun x10q x11q => impl_Bits_cut.l3 n x7 x8 x9 x12 x13 x14 x15 x16 x10q x11q Kx0w3) x10 x11 Kx0w3
def impl_Bits_cut.w (n : Nat) (lp3 : Int → Int → Int → List Int → Int → List Int → Int → Int → Int → List Int → (Int → List Int → List Int → Int → Int → Prop) → Prop) (a1 : Int) (a2 : List Int) (a3 : Int) (a4 : Int) (K : Int → List Int → Prop) : Prop :=
  impl_zeroBits.c n a4 (fun r5 r6 => lp3 a3 a4 (r6.length : Int) ([] : List (Int)) a1 a2 0 r5 0 r6 (fun y47 y48 y49 y50 y51 => if (!(decide (Int.tmod y47 64 = 0))) = true then (grd (decide (0 ≤ IntKind.wrap .i64 ((y48.length : Int) - 1)) && decide (IntKind.wrap .i64 ((y48.length : Int) - 1) < (y48.length : Int))) (let t57 : Nat := Int.toNat (IntKind.wrap .i64 ((y48.length : Int) - 1)); grd (decide (0 ≤ Int.tmod y47 64)) (let t58 : Int := IntKind.wrap .u64 (1 * 2 ^ (Nat.min (Int.toNat (Int.tmod y47 64)) 64)); let t59 : Int := ibits .and .u64 (rd y48 t57) (IntKind.wrap .u64 (t58 - 1)); grd (decide (0 ≤ IntKind.wrap .i64 ((y48.length : Int) - 1)) && decide (IntKind.wrap .i64 ((y48.length : Int) - 1) < (y48.length : Int))) (let t60 : Nat := Int.toNat (IntKind.wrap .i64 ((y48.length : Int) - 1)); K y51 (List.set y48 t60 t59))))) else (K y51 y48)))
def impl_Bits_cut.c : Nat → Int → List Int → Int → Int → (Int → List Int → Prop) → Prop
  | 0, _, _, _, _, _ => False
  | n + 1, a1, a2, a3, a4, K => impl_Bits_cut.w n (impl_Bits_cut.l3 n) a1 a2 a3 a4 K
theorem impl_Bits_cut.l3_ok (X0 : CallF) (hX : CallF.Mono X0) : ∀ (n : Nat) (x7 : Int) (x8 : Int) (x9 : Int) (x10 : Int) (x11 : List Int) (x12 : List Int) (x13 : Int) (x14 : List Int) (x15 : Int) (x16 : Int) (K : X → St → Prop), impl_Bits_cut.l3 n x7 x8 x9 x12 x13 x14 x15 x16 x10 x11 (fun y0 y1 y2 y3 y4 => K (.exit 0) ⟨[(2, .c (.int .i64 y0)), (6, .c (.pbox 6 0)), (7, .c (.pbox 7 0))], [(385, ⟨52, .int .u64, y1, 99, none⟩), (1000193, ⟨52, .int .u64, y2, 99, none⟩)], [(6, ⟨26, [.int .i64 y3, .own 1000193], false⟩), (7, ⟨26, [.int .i64 y4, .own 385], false⟩)], [], []⟩) → loopM C X0 n 36 3 ⟨[(1, .c (.int .i64 x7)), (2, .c (.int .i64 x8)), (3, .c (.pbox 3 0)), (6, .c (.pbox 6 0)), (7, .c (.pbox 7 0)), (15, .c (.int .i64 x9)), (16, .c (.int .i64 x10))], [(385, ⟨52, .int .u64, x11, 99, none⟩), (1000193, ⟨52, .int .u64, x12, 99, none⟩)], [(3, ⟨26, [.int .i64 x13, .dat 52 (.int .u64) x14], false⟩), (6, ⟨26, [.int .i64 x15, .own 1000193], false⟩), (7, ⟨26, [.int .i64 x16, .own 385], false⟩)], [], []⟩ K := by
  intro n
  induction n with
  | zero => intros; exact absurd ‹_› id
  | succ n ih =>
    intro x7 x8 x9 x10 x11 x12 x13 x14 x15 x16 K h
    refine loop_of (fn := Try.f36) (c := bodyOf Try.f36) (a := loopOf Try.f36 3) (li := liOf (C.fi 36).loops 3) hX (by kernel_rfl) (by kernel_rfl) (by kernel_rfl) (by kernel_rfl) (call := D20 n) (lp := fun _ _ _ => False) (again := fun st => match st with | ⟨[(1, .c (.int .i64 x7)), (2, .c (.int .i64 x8)), (3, .c (.pbox 3 0)), (6, .c (.pbox 6 0)), (7, .c (.pbox 7 0)), (15, .c (.int .i64 x9)), (16, .c (.int .i64 x10))], [(385, ⟨52, .int .u64, x11, 99, none⟩), (1000193, ⟨52, .int .u64, x12, 99, none⟩)], [(3, ⟨26, [.int .i64 x13, .dat 52 (.int .u64) x14], false⟩), (6, ⟨26, [.int .i64 x15, .own 1000193], false⟩), (7, ⟨26, [.int .i64 x16, .own 385], false⟩)], [], []⟩ => impl_Bits_cut.l3 n x7 x8 x9 x12 x13 x14 x15 x16 x10 x11 (fun y0 y1 y2 y3 y4 => K (.exit 0) ⟨[(2, .c (.int .i64 y0)), (6, .c (.pbox 6 0)), (7, .c (.pbox 7 0))], [(385, ⟨52, .int .u64, y1, 99, none⟩), (1000193, ⟨52, .int .u64, y2, 99, none⟩)], [(6, ⟨26, [.int .i64 y3, .own 1000193], false⟩), (7, ⟨26, [.int .i64 y4, .own 385], false⟩)], [], []⟩) | _ => False) (D20_ok X0 hX n) (fun _ _ _ h => h.elim) ?_ (by kernel_rfl) h
    intro s hs

    split at hs
    · exact ih _ _ _ _ _ _ _ _ _ _ K hs
    · exact hs.elim
theorem impl_Bits_cut_ok (X0 : CallF) (hX : CallF.Mono X0) : ∀ (n : Nat) (a1 : Int) (a2 : List Int) (a3 : Int) (a4 : Int) (K : RES → Prop), impl_Bits_cut.c n a1 a2 a3 a4 (fun r0 r1 => K ⟨.agg [.int .i64 r0, .row ⟨52, .int .u64, r1, 99, none⟩], []⟩) → callM C X0 n 36 [.agg [.int .i64 a1, .dat 52 (.int .u64) a2], .c (.int .i64 a3), .c (.int .i64 a4)] K := by
  intro n
  cases n with
  | zero => intros; exact absurd ‹_› id
  | succ n =>
    intro a1 a2 a3 a4 K h
    exact call_of (fn := Try.f36) (c := bodyOf Try.f36) hX (by kernel_rfl) (by kernel_rfl) (call := D20 n) (lp := fun k st K => match k, st with | 3, ⟨[(1, .c (.int .i64 x7)), (2, .c (.int .i64 x8)), (3, .c (.pbox 3 0)), (6, .c (.pbox 6 0)), (7, .c (.pbox 7 0)), (15, .c (.int .i64 x9)), (16, .c (.int .i64 x10))], [(385, ⟨52, .int .u64, x11, 99, none⟩), (1000193, ⟨52, .int .u64, x12, 99, none⟩)], [(3, ⟨26, [.int .i64 x13, .dat 52 (.int .u64) x14], false⟩), (6, ⟨26, [.int .i64 x15, .own 1000193], false⟩), (7, ⟨26, [.int .i64 x16, .own 385], false⟩)], [], []⟩ => impl_Bits_cut.l3 n x7 x8 x9 x12 x13 x14 x15 x16 x10 x11 (fun y0 y1 y2 y3 y4 => K (.exit 0) ⟨[(2, .c (.int .i64 y0)), (6, .c (.pbox 6 0)), (7, .c (.pbox 7 0))], [(385, ⟨52, .int .u64, y1, 99, none⟩), (1000193, ⟨52, .int .u64, y2, 99, none⟩)], [(6, ⟨26, [.int .i64 y3, .own 1000193], false⟩), (7, ⟨26, [.int .i64 y4, .own 385], false⟩)], [], []⟩) | _, _ => False) (D20_ok X0 hX n) (by intro k st K h; split at h <;> first | exact h.elim | exact impl_Bits_cut.l3_ok X0 hX n _ _ _ _ _ _ _ _ _ _ K h) (by kernel_rfl) h
def D21 (n : Nat) : CallF := fun f a K => match f, a with
  | 36, [.agg [.int .i64 a1, .dat 52 (.int .u64) a2], .c (.int .i64 a3), .c (.int .i64 a4)] => impl_Bits_cut.c n a1 a2 a3 a4 (fun r0 r1 => K ⟨.agg [.int .i64 r0, .row ⟨52, .int .u64, r1, 99, none⟩], []⟩)
  | f, a => D20 n f a K
theorem D21_ok (X0 : CallF) (hX : CallF.Mono X0) (n : Nat) : ∀ f a K, D21 n f a K → callM C X0 n f a K := by
  intro f a K h
  unfold D21 at h
  split at h
  · exact impl_Bits_cut_ok X0 hX n _ _ _ _ K h
  · exact D20_ok X0 hX n _ _ _ h
def impl_PartOf.j0 (K : Int → List Int → Bool → Prop) (a1 : Int) (a2 : List Int) (a3 : Int) (a4 : Int) (n : Nat) (j12 : Bool) : Prop :=
  if j12 = true then (K 0 ([] : List (Int)) false) else (let t13 : Int := IntKind.wrap .i64 ((IntKind.wrap .i64 (a3 - a4)) + 1); impl_Bits_cut.c n a1 a2 a4 t13 (fun r14 r15 => K r14 r15 true))
def impl_PartOf.w (n : Nat) (a1 : Int) (a2 : List Int) (a3 : Int) (a4 : Int) (K : Int → List Int → Bool → Prop) : Prop :=
  impl_BitsOk.c n a1 a2 (fun r16 => if (!r16) = false then (if (decide (a4 < 0)) = false then (if (decide (a4 > a3)) = false then (impl_PartOf.j0 K a1 a2 a3 a4 n (decide (a3 ≥ a1))) else (impl_PartOf.j0 K a1 a2 a3 a4 n true)) else (impl_PartOf.j0 K a1 a2 a3 a4 n true)) else (impl_PartOf.j0 K a1 a2 a3 a4 n true))
def impl_PartOf.c : Nat → Int → List Int → Int → Int → (Int → List Int → Bool → Prop) → Prop
  | 0, _, _, _, _, _ => False
  | n + 1, a1, a2, a3, a4, K => impl_PartOf.w n  a1 a2 a3 a4 K
theorem impl_PartOf_ok (X0 : CallF) (hX : CallF.Mono X0) : ∀ (n : Nat) (a1 : Int) (a2 : List Int) (a3 : Int) (a4 : Int) (K : RES → Prop), impl_PartOf.c n a1 a2 a3 a4 (fun r0 r1 r2 => K ⟨.tup [.agg [.int .i64 r0, .row ⟨52, .int .u64, r1, 99, none⟩], .c (.bool r2)], []⟩) → callM C X0 n 11 [.agg [.int .i64 a1, .dat 52 (.int .u64) a2], .c (.int .i64 a3), .c (.int .i64 a4)] K := by
  intro n
  cases n with
  | zero => intros; exact absurd ‹_› id
  | succ n =>
    intro a1 a2 a3 a4 K h
    exact call_of (fn := Try.f11) (c := bodyOf Try.f11) hX (by kernel_rfl) (by kernel_rfl) (call := D21 n) (lp := fun _ _ _ => False) (D21_ok X0 hX n) (fun _ _ _ h => h.elim) (by kernel_rfl) h
def D22 (n : Nat) : CallF := fun f a K => match f, a with
  | 11, [.agg [.int .i64 a1, .dat 52 (.int .u64) a2], .c (.int .i64 a3), .c (.int .i64 a4)] => impl_PartOf.c n a1 a2 a3 a4 (fun r0 r1 r2 => K ⟨.tup [.agg [.int .i64 r0, .row ⟨52, .int .u64, r1, 99, none⟩], .c (.bool r2)], []⟩)
  | f, a => D21 n f a K
theorem D22_ok (X0 : CallF) (hX : CallF.Mono X0) (n : Nat) : ∀ f a K, D22 n f a K → callM C X0 n f a K := by
  intro f a K h
  unfold D22 at h
  split at h
  · exact impl_PartOf_ok X0 hX n _ _ _ _ K h
  · exact D21_ok X0 hX n _ _ _ h
def impl_Bits_put.j3 (again2 : Int → List Int → Prop) (t28 : Int) (t36 : List Int) (x7 : List Int) (x9 : Int) (j38 : Bool) : Prop :=
  if j38 = true then (let t39 : Int := IntKind.wrap .i64 ((IntKind.wrap .i64 (Int.tdiv t28 64)) + 1); grd (decide (0 ≤ t39) && decide (t39 < (t36.length : Int))) (grd (decide (0 ≤ IntKind.wrap .i64 (64 - (Int.tmod t28 64)))) (let t40 : Int := Int.fdiv (rd x7 (Int.toNat x9)) (2 ^ (Nat.min (Int.toNat (IntKind.wrap .i64 (64 - (Int.tmod t28 64)))) 64)); grd (decide (0 ≤ t39) && decide (t39 < (t36.length : Int))) (let t41 : List Int := List.set t36 (Int.toNat t39) (ibits .or .u64 (rd t36 (Int.toNat t39)) t40); again2 (IntKind.wrap .i64 (x9 + 1)) t41)))) else (again2 (IntKind.wrap .i64 (x9 + 1)) t36)
def impl_Bits_put.l2.b (n : Nat) (x6 : Int) (x7 : List Int) (x8 : Int) (x11 : Int) (again2 : Int → List Int → Prop) (x9 : Int) (x10 : List Int) (Kx0w2 : List Int → Prop) : Prop :=
  if (decide (x9 < x8)) = true then (grd (decide (0 ≤ x9) && decide (x9 < (x7.length : Int))) (let t28 : Int := IntKind.wrap .i64 (x6 + (IntKind.wrap .i64 (64 * x9))); grd (decide (0 ≤ IntKind.wrap .i64 (Int.tdiv t28 64)) && decide (IntKind.wrap .i64 (Int.tdiv t28 64) < (x10.length : Int))) (let t33 : Nat := Int.toNat (IntKind.wrap .i64 (Int.tdiv t28 64)); grd (decide (0 ≤ Int.tmod t28 64)) (let t34 : Int := IntKind.wrap .u64 ((rd x7 (Int.toNat x9)) * 2 ^ (Nat.min (Int.toNat (Int.tmod t28 64)) 64)); grd (decide (0 ≤ IntKind.wrap .i64 (Int.tdiv t28 64)) && decide (IntKind.wrap .i64 (Int.tdiv t28 64) < (x10.length : Int))) (let t35 : Nat := Int.toNat (IntKind.wrap .i64 (Int.tdiv t28 64)); let t36 : List Int := List.set x10 t35 (ibits .or .u64 (rd x10 t33) t34); if (!(decide (Int.tmod t28 64 = 0))) = true then (let t42 : Int := IntKind.wrap .i64 ((IntKind.wrap .i64 (Int.tdiv t28 64)) + 1); impl_Bits_put.j3 again2 t28 t36 x7 x9 (decide (t42 < (t36.length : Int)))) else (impl_Bits_put.j3 again2 t28 t36 x7 x9 false)))))) else (Kx0w2 x10)
def impl_Bits_put.l2 : Nat → Int → List Int → Int → Int → Int → List Int → (List Int → Prop) → Prop
  | 0, _, _, _, _, _, _, _ => False
  | n + 1, x6, x7, x8, x11, x9, x10, Kx0w2 => impl_Bits_put.l2.b n  x6 x7 x8 x11 (fun x9q x10q => impl_Bits_put.l2 n x6 x7 x8 x11 x9q x10q Kx0w2) x9 x10 Kx0w2
def impl_Bits_put.w (n : Nat) (lp2 : Int → List Int → Int → Int → Int → List Int → (List Int → Prop) → Prop) (a1 : Int) (a2 : List Int) (a3 : Int) (a4 : Int) (a5 : List Int) (K : Int → List Int → Prop) : Prop :=
  lp2 a3 a5 (a5.length : Int) a1 0 a2 (fun y43 => K a1 y43)
def impl_Bits_put.c : Nat → Int → List Int → Int → Int → List Int → (Int → List Int → Prop) → Prop
  | 0, _, _, _, _, _, _ => False
  | n + 1, a1, a2, a3, a4, a5, K => impl_Bits_put.w n (impl_Bits_put.l2 n) a1 a2 a3 a4 a5 K
theorem impl_Bits_put.l2_ok (X0 : CallF) (hX : CallF.Mono X0) : ∀ (n : Nat) (x6 : Int) (x7 : List Int) (x8 : Int) (x9 : Int) (x10 : List Int) (x11 : Int) (K : X → St → Prop), impl_Bits_put.l2 n x6 x7 x8 x11 x9 x10 (fun y0 => K (.exit 0) ⟨[], [(1, ⟨52, .int .u64, y0, 99, none⟩)], [], [1], []⟩) → loopM C X0 n 57 2 ⟨[(1, .c (.int .i64 x6)), (3, .c (.pbox 3 0)), (10, .c (.dat 52 (.int .u64) x7)), (11, .c (.int .i64 x8)), (12, .c (.int .i64 x9))], [(1, ⟨52, .int .u64, x10, 99, none⟩)], [(3, ⟨26, [.int .i64 x11, .own 1], false⟩)], [1], []⟩ K := by
  intro n
  induction n with
  | zero => intros; exact absurd ‹_› id
  | succ n ih =>
    intro x6 x7 x8 x9 x10 x11 K h
    refine loop_of (fn := Try.f57) (c := bodyOf Try.f57) (a := loopOf Try.f57 2) (li := liOf (C.fi 57).loops 2) hX (by kernel_rfl) (by kernel_rfl) (by kernel_rfl) (by kernel_rfl) (call := D22 n) (lp := fun _ _ _ => False) (again := fun st => match st with | ⟨[(1, .c (.int .i64 x6)), (3, .c (.pbox 3 0)), (10, .c (.dat 52 (.int .u64) x7)), (11, .c (.int .i64 x8)), (12, .c (.int .i64 x9))], [(1, ⟨52, .int .u64, x10, 99, none⟩)], [(3, ⟨26, [.int .i64 x11, .own 1], false⟩)], [1], []⟩ => impl_Bits_put.l2 n x6 x7 x8 x11 x9 x10 (fun y0 => K (.exit 0) ⟨[], [(1, ⟨52, .int .u64, y0, 99, none⟩)], [], [1], []⟩) | _ => False) (D22_ok X0 hX n) (fun _ _ _ h => h.elim) ?_ (by kernel_rfl) h
    intro s hs

    split at hs
    · exact ih _ _ _ _ _ _ K hs
    · exact hs.elim
theorem impl_Bits_put_ok (X0 : CallF) (hX : CallF.Mono X0) : ∀ (n : Nat) (a1 : Int) (a2 : List Int) (a3 : Int) (a4 : Int) (a5 : List Int) (K : RES → Prop), impl_Bits_put.c n a1 a2 a3 a4 a5 (fun r0 r1 => K ⟨.tup [], [[.int .i64 r0, .row ⟨52, .int .u64, r1, 99, none⟩]]⟩) → callM C X0 n 57 [.agg [.int .i64 a1, .row ⟨52, .int .u64, a2, 99, none⟩], .c (.int .i64 a3), .agg [.int .i64 a4, .dat 52 (.int .u64) a5]] K := by
  intro n
  cases n with
  | zero => intros; exact absurd ‹_› id
  | succ n =>
    intro a1 a2 a3 a4 a5 K h
    exact call_of (fn := Try.f57) (c := bodyOf Try.f57) hX (by kernel_rfl) (by kernel_rfl) (call := D22 n) (lp := fun k st K => match k, st with | 2, ⟨[(1, .c (.int .i64 x6)), (3, .c (.pbox 3 0)), (10, .c (.dat 52 (.int .u64) x7)), (11, .c (.int .i64 x8)), (12, .c (.int .i64 x9))], [(1, ⟨52, .int .u64, x10, 99, none⟩)], [(3, ⟨26, [.int .i64 x11, .own 1], false⟩)], [1], []⟩ => impl_Bits_put.l2 n x6 x7 x8 x11 x9 x10 (fun y0 => K (.exit 0) ⟨[], [(1, ⟨52, .int .u64, y0, 99, none⟩)], [], [1], []⟩) | _, _ => False) (D22_ok X0 hX n) (by intro k st K h; split at h <;> first | exact h.elim | exact impl_Bits_put.l2_ok X0 hX n _ _ _ _ _ _ K h) (by kernel_rfl) h
def D23 (n : Nat) : CallF := fun f a K => match f, a with
  | 57, [.agg [.int .i64 a1, .row ⟨52, .int .u64, a2, 99, none⟩], .c (.int .i64 a3), .agg [.int .i64 a4, .dat 52 (.int .u64) a5]] => impl_Bits_put.c n a1 a2 a3 a4 a5 (fun r0 r1 => K ⟨.tup [], [[.int .i64 r0, .row ⟨52, .int .u64, r1, 99, none⟩]]⟩)
  | f, a => D22 n f a K
theorem D23_ok (X0 : CallF) (hX : CallF.Mono X0) (n : Nat) : ∀ f a K, D23 n f a K → callM C X0 n f a K := by
  intro f a K h
  unfold D23 at h
  split at h
  · exact impl_Bits_put_ok X0 hX n _ _ _ _ _ K h
  · exact D22_ok X0 hX n _ _ _ h
def impl_Bits_over.w (n : Nat) (a1 : Int) (a2 : List Int) (a3 : Int) (a4 : List Int) (K : Int → List Int → Prop) : Prop :=
  impl_zeroBits.c n (IntKind.wrap .i64 (a1 + a3)) (fun r5 r6 => impl_Bits_put.c n r5 r6 0 a3 a4 (fun r7 r8 => impl_Bits_put.c n r5 r8 a3 a1 a2 (fun r9 r10 => K r5 r10)))
def impl_Bits_over.c : Nat → Int → List Int → Int → List Int → (Int → List Int → Prop) → Prop
  | 0, _, _, _, _, _ => False
  | n + 1, a1, a2, a3, a4, K => impl_Bits_over.w n  a1 a2 a3 a4 K
theorem impl_Bits_over_ok (X0 : CallF) (hX : CallF.Mono X0) : ∀ (n : Nat) (a1 : Int) (a2 : List Int) (a3 : Int) (a4 : List Int) (K : RES → Prop), impl_Bits_over.c n a1 a2 a3 a4 (fun r0 r1 => K ⟨.agg [.int .i64 r0, .row ⟨52, .int .u64, r1, 99, none⟩], []⟩) → callM C X0 n 37 [.agg [.int .i64 a1, .dat 52 (.int .u64) a2], .agg [.int .i64 a3, .dat 52 (.int .u64) a4]] K := by
  intro n
  cases n with
  | zero => intros; exact absurd ‹_› id
  | succ n =>
    intro a1 a2 a3 a4 K h
    exact call_of (fn := Try.f37) (c := bodyOf Try.f37) hX (by kernel_rfl) (by kernel_rfl) (call := D23 n) (lp := fun _ _ _ => False) (D23_ok X0 hX n) (fun _ _ _ h => h.elim) (by kernel_rfl) h
def D24 (n : Nat) : CallF := fun f a K => match f, a with
  | 37, [.agg [.int .i64 a1, .dat 52 (.int .u64) a2], .agg [.int .i64 a3, .dat 52 (.int .u64) a4]] => impl_Bits_over.c n a1 a2 a3 a4 (fun r0 r1 => K ⟨.agg [.int .i64 r0, .row ⟨52, .int .u64, r1, 99, none⟩], []⟩)
  | f, a => D23 n f a K
theorem D24_ok (X0 : CallF) (hX : CallF.Mono X0) (n : Nat) : ∀ f a K, D24 n f a K → callM C X0 n f a K := by
  intro f a K h
  unfold D24 at h
  split at h
  · exact impl_Bits_over_ok X0 hX n _ _ _ _ K h
  · exact D23_ok X0 hX n _ _ _ h
def impl_JoinBits.w (n : Nat) (a1 : Int) (a2 : List Int) (a3 : Int) (a4 : List Int) (K : Int → List Int → Bool → Prop) : Prop :=
  impl_BitsOk.c n a1 a2 (fun r17 => if (!r17) = false then (impl_BitsOk.c n a3 a4 (fun r18 => if (!r18) = false then (if (decide (IntKind.wrap .i64 (a1 + a3) > 4096)) = true then (K 0 ([] : List (Int)) false) else (impl_Bits_over.c n a1 a2 a3 a4 (fun r19 r20 => K r19 r20 true))) else (K 0 ([] : List (Int)) false))) else (K 0 ([] : List (Int)) false))
def impl_JoinBits.c : Nat → Int → List Int → Int → List Int → (Int → List Int → Bool → Prop) → Prop
  | 0, _, _, _, _, _ => False
  | n + 1, a1, a2, a3, a4, K => impl_JoinBits.w n  a1 a2 a3 a4 K
theorem impl_JoinBits_ok (X0 : CallF) (hX : CallF.Mono X0) : ∀ (n : Nat) (a1 : Int) (a2 : List Int) (a3 : Int) (a4 : List Int) (K : RES → Prop), impl_JoinBits.c n a1 a2 a3 a4 (fun r0 r1 r2 => K ⟨.tup [.agg [.int .i64 r0, .row ⟨52, .int .u64, r1, 99, none⟩], .c (.bool r2)], []⟩) → callM C X0 n 12 [.agg [.int .i64 a1, .dat 52 (.int .u64) a2], .agg [.int .i64 a3, .dat 52 (.int .u64) a4]] K := by
  intro n
  cases n with
  | zero => intros; exact absurd ‹_› id
  | succ n =>
    intro a1 a2 a3 a4 K h
    exact call_of (fn := Try.f12) (c := bodyOf Try.f12) hX (by kernel_rfl) (by kernel_rfl) (call := D24 n) (lp := fun _ _ _ => False) (D24_ok X0 hX n) (fun _ _ _ h => h.elim) (by kernel_rfl) h
def D25 (n : Nat) : CallF := fun f a K => match f, a with
  | 12, [.agg [.int .i64 a1, .dat 52 (.int .u64) a2], .agg [.int .i64 a3, .dat 52 (.int .u64) a4]] => impl_JoinBits.c n a1 a2 a3 a4 (fun r0 r1 r2 => K ⟨.tup [.agg [.int .i64 r0, .row ⟨52, .int .u64, r1, 99, none⟩], .c (.bool r2)], []⟩)
  | f, a => D24 n f a K
theorem D25_ok (X0 : CallF) (hX : CallF.Mono X0) (n : Nat) : ∀ f a K, D25 n f a K → callM C X0 n f a K := by
  intro f a K h
  unfold D25 at h
  split at h
  · exact impl_JoinBits_ok X0 hX n _ _ _ _ K h
  · exact D24_ok X0 hX n _ _ _ h
def laws_sameBits.l4.b (n : Nat) (x9 : Int) (x10 : List Int) (x11 : Int) (x12 : List Int) (again4 : Int → Prop) (x8 : Int) (Kx0w4 : Prop) (Kr4 : Bool → Prop) : Prop :=
  if (decide (x8 < (x10.length : Int))) = true then (grd (decide (0 ≤ x8) && decide (x8 < (x10.length : Int))) (grd (decide (0 ≤ x8) && decide (x8 < (x12.length : Int))) (let t16 : Bool := !(decide (rd x10 (Int.toNat x8) = rd x12 (Int.toNat x8))); if t16 = true then (Kr4 false) else (again4 (IntKind.wrap .i64 (x8 + 1)))))) else (Kx0w4)
def laws_sameBits.l4 : Nat → Int → List Int → Int → List Int → Int → Prop → (Bool → Prop) → Prop
  | 0, _, _, _, _, _, _, _ => False
  | n + 1, x9, x10, x11, x12, x8, Kx0w4, Kr4 => laws_sameBits.l4.b n  x9 x10 x11 x12 (fun x8q => laws_sameBits.l4 n x9 x10 x11 x12 x8q Kx0w4 Kr4) x8 Kx0w4 Kr4
def laws_sameBits.w (n : Nat) (lp4 : Int → List Int → Int → List Int → Int → Prop → (Bool → Prop) → Prop) (a1 : Int) (a2 : List Int) (a3 : Int) (a4 : List Int) (K : Bool → Prop) : Prop :=
  if (!(decide (a1 = a3))) = false then (let t23 : Bool := !(decide ((a2.length : Int) = (a4.length : Int))); if t23 = true then (K false) else (lp4 a1 a2 a3 a4 0 (K true) (fun y25 => K y25))) else (K false)
def laws_sameBits.c : Nat → Int → List Int → Int → List Int → (Bool → Prop) → Prop
  | 0, _, _, _, _, _ => False
  | n + 1, a1, a2, a3, a4, K => laws_sameBits.w n (laws_sameBits.l4 n) a1 a2 a3 a4 K
theorem laws_sameBits.l4_ok (X0 : CallF) (hX : CallF.Mono X0) : ∀ (n : Nat) (x8 : Int) (x9 : Int) (x10 : List Int) (x11 : Int) (x12 : List Int) (K : X → St → Prop), laws_sameBits.l4 n x9 x10 x11 x12 x8 (K (.exit 0) ⟨[], [], [], [], []⟩) (fun y0 => K .ret ⟨[(4, .c (.bool y0))], [], [], [], []⟩) → loopM C X0 n 13 4 ⟨[(2, .c (.pbox 2 0)), (3, .c (.pbox 3 0)), (5, .c (.int .i64 x8))], [], [(2, ⟨26, [.int .i64 x9, .dat 52 (.int .u64) x10], false⟩), (3, ⟨26, [.int .i64 x11, .dat 52 (.int .u64) x12], false⟩)], [], []⟩ K := by
  intro n
  induction n with
  | zero => intros; exact absurd ‹_› id
  | succ n ih =>
    intro x8 x9 x10 x11 x12 K h
    refine loop_of (fn := Try.f13) (c := bodyOf Try.f13) (a := loopOf Try.f13 4) (li := liOf (C.fi 13).loops 4) hX (by kernel_rfl) (by kernel_rfl) (by kernel_rfl) (by kernel_rfl) (call := D25 n) (lp := fun _ _ _ => False) (again := fun st => match st with | ⟨[(2, .c (.pbox 2 0)), (3, .c (.pbox 3 0)), (5, .c (.int .i64 x8))], [], [(2, ⟨26, [.int .i64 x9, .dat 52 (.int .u64) x10], false⟩), (3, ⟨26, [.int .i64 x11, .dat 52 (.int .u64) x12], false⟩)], [], []⟩ => laws_sameBits.l4 n x9 x10 x11 x12 x8 (K (.exit 0) ⟨[], [], [], [], []⟩) (fun y0 => K .ret ⟨[(4, .c (.bool y0))], [], [], [], []⟩) | _ => False) (D25_ok X0 hX n) (fun _ _ _ h => h.elim) ?_ (by kernel_rfl) h
    intro s hs

    split at hs
    · exact ih _ _ _ _ _ K hs
    · exact hs.elim
theorem laws_sameBits_ok (X0 : CallF) (hX : CallF.Mono X0) : ∀ (n : Nat) (a1 : Int) (a2 : List Int) (a3 : Int) (a4 : List Int) (K : RES → Prop), laws_sameBits.c n a1 a2 a3 a4 (fun r0 => K ⟨.c (.bool r0), []⟩) → callM C X0 n 13 [.agg [.int .i64 a1, .dat 52 (.int .u64) a2], .agg [.int .i64 a3, .dat 52 (.int .u64) a4]] K := by
  intro n
  cases n with
  | zero => intros; exact absurd ‹_› id
  | succ n =>
    intro a1 a2 a3 a4 K h
    exact call_of (fn := Try.f13) (c := bodyOf Try.f13) hX (by kernel_rfl) (by kernel_rfl) (call := D25 n) (lp := fun k st K => match k, st with | 4, ⟨[(2, .c (.pbox 2 0)), (3, .c (.pbox 3 0)), (5, .c (.int .i64 x8))], [], [(2, ⟨26, [.int .i64 x9, .dat 52 (.int .u64) x10], false⟩), (3, ⟨26, [.int .i64 x11, .dat 52 (.int .u64) x12], false⟩)], [], []⟩ => laws_sameBits.l4 n x9 x10 x11 x12 x8 (K (.exit 0) ⟨[], [], [], [], []⟩) (fun y0 => K .ret ⟨[(4, .c (.bool y0))], [], [], [], []⟩) | _, _ => False) (D25_ok X0 hX n) (by intro k st K h; split at h <;> first | exact h.elim | exact laws_sameBits.l4_ok X0 hX n _ _ _ _ _ K h) (by kernel_rfl) h
def D26 (n : Nat) : CallF := fun f a K => match f, a with
  | 13, [.agg [.int .i64 a1, .dat 52 (.int .u64) a2], .agg [.int .i64 a3, .dat 52 (.int .u64) a4]] => laws_sameBits.c n a1 a2 a3 a4 (fun r0 => K ⟨.c (.bool r0), []⟩)
  | f, a => D25 n f a K
theorem D26_ok (X0 : CallF) (hX : CallF.Mono X0) (n : Nat) : ∀ f a K, D26 n f a K → callM C X0 n f a K := by
  intro f a K h
  unfold D26 at h
  split at h
  · exact laws_sameBits_ok X0 hX n _ _ _ _ K h
  · exact D25_ok X0 hX n _ _ _ h
def math_bits_OnesCount64.w (n : Nat) (a1 : Int) (K : Int → Prop) : Prop :=
  let t2 : Int := ibits .and .u64 (Int.fdiv a1 (2 ^ 1)) 6148914691236517205; let t3 : Int := IntKind.wrap .u64 (t2 + (ibits .and .u64 a1 6148914691236517205)); let t4 : Int := ibits .and .u64 (Int.fdiv t3 (2 ^ 2)) 3689348814741910323; let t5 : Int := IntKind.wrap .u64 (t4 + (ibits .and .u64 t3 3689348814741910323)); let t6 : Int := IntKind.wrap .u64 ((Int.fdiv t5 (2 ^ 4)) + t5); let t7 : Int := Int.fdiv (ibits .and .u64 t6 1085102592571150095) (2 ^ 8); let t8 : Int := IntKind.wrap .u64 ((ibits .and .u64 t6 1085102592571150095) + t7); let t9 : Int := IntKind.wrap .u64 (t8 + (Int.fdiv t8 (2 ^ 16))); let t10 : Int := IntKind.wrap .u64 (t9 + (Int.fdiv t9 (2 ^ 32))); K (ibits .and .i64 (IntKind.wrap .i64 t10) 127)
def math_bits_OnesCount64.c : Nat → Int → (Int → Prop) → Prop
  | 0, _, _ => False
  | n + 1, a1, K => math_bits_OnesCount64.w n  a1 K
theorem math_bits_OnesCount64_ok (X0 : CallF) (hX : CallF.Mono X0) : ∀ (n : Nat) (a1 : Int) (K : RES → Prop), math_bits_OnesCount64.c n a1 (fun r0 => K ⟨.c (.int .i64 r0), []⟩) → callM C X0 n 38 [.c (.int .u64 a1)] K := by
  intro n
  cases n with
  | zero => intros; exact absurd ‹_› id
  | succ n =>
    intro a1 K h
    exact call_of (fn := Try.f38) (c := bodyOf Try.f38) hX (by kernel_rfl) (by kernel_rfl) (call := D26 n) (lp := fun _ _ _ => False) (D26_ok X0 hX n) (fun _ _ _ h => h.elim) (by kernel_rfl) h
def D27 (n : Nat) : CallF := fun f a K => match f, a with
  | 38, [.c (.int .u64 a1)] => math_bits_OnesCount64.c n a1 (fun r0 => K ⟨.c (.int .i64 r0), []⟩)
  | f, a => D26 n f a K
theorem D27_ok (X0 : CallF) (hX : CallF.Mono X0) (n : Nat) : ∀ f a K, D27 n f a K → callM C X0 n f a K := by
  intro f a K h
  unfold D27 at h
  split at h
  · exact math_bits_OnesCount64_ok X0 hX n _ K h
  · exact D26_ok X0 hX n _ _ _ h
def impl_CountOnes.l5.b (n : Nat) (x6 : List Int) (x7 : Int) (again5 : Int → Int → Prop) (x5 : Int) (x8 : Int) (Kx0w5 : Int → Prop) : Prop :=
  if (decide (x8 < x7)) = true then (grd (decide (0 ≤ x8) && decide (x8 < (x6.length : Int))) (math_bits_OnesCount64.c n (rd x6 (Int.toNat x8)) (fun r10 => again5 (IntKind.wrap .i64 (x5 + r10)) (IntKind.wrap .i64 (x8 + 1))))) else (Kx0w5 x5)
def impl_CountOnes.l5 : Nat → List Int → Int → Int → Int → (Int → Prop) → Prop
  | 0, _, _, _, _, _ => False
  | n + 1, x6, x7, x5, x8, Kx0w5 => impl_CountOnes.l5.b n  x6 x7 (fun x5q x8q => impl_CountOnes.l5 n x6 x7 x5q x8q Kx0w5) x5 x8 Kx0w5
def impl_CountOnes.w (n : Nat) (lp5 : List Int → Int → Int → Int → (Int → Prop) → Prop) (a1 : Int) (a2 : List Int) (K : Int → Prop) : Prop :=
  impl_BitsOk.c n a1 a2 (fun r4 => if (!r4) = true then (K (-1)) else (lp5 a2 (a2.length : Int) 0 0 (fun y12 => K y12)))
def impl_CountOnes.c : Nat → Int → List Int → (Int → Prop) → Prop
  | 0, _, _, _ => False
  | n + 1, a1, a2, K => impl_CountOnes.w n (impl_CountOnes.l5 n) a1 a2 K
theorem impl_CountOnes.l5_ok (X0 : CallF) (hX : CallF.Mono X0) : ∀ (n : Nat) (x5 : Int) (x6 : List Int) (x7 : Int) (x8 : Int) (K : X → St → Prop), impl_CountOnes.l5 n x6 x7 x5 x8 (fun y0 => K (.exit 0) ⟨[(3, .c (.int .i64 y0))], [], [], [], []⟩) → loopM C X0 n 14 5 ⟨[(3, .c (.int .i64 x5)), (10, .c (.dat 52 (.int .u64) x6)), (11, .c (.int .i64 x7)), (12, .c (.int .i64 x8))], [], [], [], []⟩ K := by
  intro n
  induction n with
  | zero => intros; exact absurd ‹_› id
  | succ n ih =>
    intro x5 x6 x7 x8 K h
    refine loop_of (fn := Try.f14) (c := bodyOf Try.f14) (a := loopOf Try.f14 5) (li := liOf (C.fi 14).loops 5) hX (by kernel_rfl) (by kernel_rfl) (by kernel_rfl) (by kernel_rfl) (call := D27 n) (lp := fun _ _ _ => False) (again := fun st => match st with | ⟨[(3, .c (.int .i64 x5)), (10, .c (.dat 52 (.int .u64) x6)), (11, .c (.int .i64 x7)), (12, .c (.int .i64 x8))], [], [], [], []⟩ => impl_CountOnes.l5 n x6 x7 x5 x8 (fun y0 => K (.exit 0) ⟨[(3, .c (.int .i64 y0))], [], [], [], []⟩) | _ => False) (D27_ok X0 hX n) (fun _ _ _ h => h.elim) ?_ (by kernel_rfl) h
    intro s hs

    split at hs
    · exact ih _ _ _ _ K hs
    · exact hs.elim
theorem impl_CountOnes_ok (X0 : CallF) (hX : CallF.Mono X0) : ∀ (n : Nat) (a1 : Int) (a2 : List Int) (K : RES → Prop), impl_CountOnes.c n a1 a2 (fun r0 => K ⟨.c (.int .i64 r0), []⟩) → callM C X0 n 14 [.agg [.int .i64 a1, .dat 52 (.int .u64) a2]] K := by
  intro n
  cases n with
  | zero => intros; exact absurd ‹_› id
  | succ n =>
    intro a1 a2 K h
    exact call_of (fn := Try.f14) (c := bodyOf Try.f14) hX (by kernel_rfl) (by kernel_rfl) (call := D27 n) (lp := fun k st K => match k, st with | 5, ⟨[(3, .c (.int .i64 x5)), (10, .c (.dat 52 (.int .u64) x6)), (11, .c (.int .i64 x7)), (12, .c (.int .i64 x8))], [], [], [], []⟩ => impl_CountOnes.l5 n x6 x7 x5 x8 (fun y0 => K (.exit 0) ⟨[(3, .c (.int .i64 y0))], [], [], [], []⟩) | _, _ => False) (D27_ok X0 hX n) (by intro k st K h; split at h <;> first | exact h.elim | exact impl_CountOnes.l5_ok X0 hX n _ _ _ _ K h) (by kernel_rfl) h
def D28 (n : Nat) : CallF := fun f a K => match f, a with
  | 14, [.agg [.int .i64 a1, .dat 52 (.int .u64) a2]] => impl_CountOnes.c n a1 a2 (fun r0 => K ⟨.c (.int .i64 r0), []⟩)
  | f, a => D27 n f a K
theorem D28_ok (X0 : CallF) (hX : CallF.Mono X0) (n : Nat) : ∀ f a K, D28 n f a K → callM C X0 n f a K := by
  intro f a K h
  unfold D28 at h
  split at h
  · exact impl_CountOnes_ok X0 hX n _ _ K h
  · exact D27_ok X0 hX n _ _ _ h
def laws_FnBitsParts.j1 (K : Bool → Prop) (a1 : List Int) (n : Nat) (r4 : Int) (r5 : List Int) (j19 : Bool) : Prop :=
  if j19 = true then ((impl_BitsOk.c n r4 r5 (fun r25 => spec_BitsOk.c n r4 r5 (fun r26 => K (r25 == r26)))) ∧ (impl_BitsOk.c n r4 r5 (fun r27 => spec_BitsOk.c n r4 r5 (fun r28 => K (r27 == r28))))) else (grd (!(decide (IntKind.wrap .i64 (r4 - 1) = 0))) (let t29 : Int := Int.tmod (a1.length : Int) (IntKind.wrap .i64 (r4 - 1)); impl_PartOf.c n r4 r5 (IntKind.wrap .i64 (r4 - 1)) (IntKind.wrap .i64 (1 + t29)) (fun r30 r31 r32 => let t33 : Int := IntKind.wrap .i64 ((IntKind.wrap .i64 (1 + t29)) - 1); impl_PartOf.c n r4 r5 t33 0 (fun r34 r35 r36 => impl_JoinBits.c n r30 r31 r34 r35 (fun r37 r38 r39 => if r32 = true then (if r36 = true then (if r39 = true then (laws_sameBits.c n r37 r38 r4 r5 (fun r61 => if r61 = true then ((impl_CountOnes.c n r30 r31 (fun r62 => (impl_CountOnes.c n r34 r35 (fun r63 => impl_CountOnes.c n r4 r5 (fun r64 => K (decide (IntKind.wrap .i64 (r62 + r63) = r64))))) ∧ (impl_CountOnes.c n r34 r35 (fun r65 => impl_CountOnes.c n r4 r5 (fun r66 => K (decide (IntKind.wrap .i64 (r62 + r65) = r66))))))) ∧ ((impl_CountOnes.c n r30 r31 (fun r67 => (impl_CountOnes.c n r34 r35 (fun r68 => impl_CountOnes.c n r4 r5 (fun r69 => K (decide (IntKind.wrap .i64 (r67 + r68) = r69))))) ∧ (impl_CountOnes.c n r34 r35 (fun r70 => impl_CountOnes.c n r4 r5 (fun r71 => K (decide (IntKind.wrap .i64 (r67 + r70) = r71))))))) ∧ (impl_CountOnes.c n r30 r31 (fun r72 => impl_CountOnes.c n r34 r35 (fun r73 => impl_CountOnes.c n r4 r5 (fun r74 => K (decide (IntKind.wrap .i64 (r72 + r73) = r74))))))) ∧ ((impl_CountOnes.c n r30 r31 (fun r75 => impl_CountOnes.c n r34 r35 (fun r76 => impl_CountOnes.c n r4 r5 (fun r77 => K (decide (IntKind.wrap .i64 (r75 + r76) = r77)))))) ∧ (impl_CountOnes.c n r30 r31 (fun r78 => impl_CountOnes.c n r34 r35 (fun r79 => impl_CountOnes.c n r4 r5 (fun r80 => K (decide (IntKind.wrap .i64 (r78 + r79) = r80)))))))) else (((K false) ∧ (K false)) ∧ (((K false) ∧ (K false)) ∧ (K false)) ∧ ((K false) ∧ (K false))))) else (((K false) ∧ (K false)) ∧ (((K false) ∧ (K false)) ∧ (K false)) ∧ ((K false) ∧ (K false)))) else (((K false) ∧ (K false)) ∧ (((K false) ∧ (K false)) ∧ (K false)) ∧ ((K false) ∧ (K false)))) else (((K false) ∧ (K false)) ∧ (((K false) ∧ (K false)) ∧ (K false)) ∧ ((K false) ∧ (K false))))))))
def laws_FnBitsParts.w (n : Nat) (a1 : List Int) (K : Bool → Prop) : Prop :=
  laws_big.c n a1 (fun r3 => if r3 = true then (K true) else (spec_DrawBitsOk.c n a1 (fun r4 r5 => spec_BitsOk.c n r4 r5 (fun r81 => if (!r81) = false then (laws_FnBitsParts.j1 K a1 n r4 r5 (decide (r4 < 2))) else (laws_FnBitsParts.j1 K a1 n r4 r5 true)))))
def laws_FnBitsParts.c : Nat → List Int → (Bool → Prop) → Prop
  | 0, _, _ => False
  | n + 1, a1, K => laws_FnBitsParts.w n  a1 K
theorem laws_FnBitsParts_ok (X0 : CallF) (hX : CallF.Mono X0) : ∀ (n : Nat) (a1 : List Int) (K : RES → Prop), laws_FnBitsParts.c n a1 (fun r0 => K ⟨.c (.bool r0), []⟩) → callM C X0 n 3 [.c (.dat 5 (.int .u8) a1)] K := by
  intro n
  cases n with
  | zero => intros; exact absurd ‹_› id
  | succ n =>
    intro a1 K h
    exact call_of (fn := Try.f3) (c := bodyOf Try.f3) hX (by kernel_rfl) (by kernel_rfl) (call := D28 n) (lp := fun _ _ _ => False) (D28_ok X0 hX n) (fun _ _ _ h => h.elim) (by kernel_rfl) h
def D29 (n : Nat) : CallF := fun f a K => match f, a with
  | 3, [.c (.dat 5 (.int .u8) a1)] => laws_FnBitsParts.c n a1 (fun r0 => K ⟨.c (.bool r0), []⟩)
  | f, a => D28 n f a K
theorem D29_ok (X0 : CallF) (hX : CallF.Mono X0) (n : Nat) : ∀ f a K, D29 n f a K → callM C X0 n f a K := by
  intro f a K h
  unfold D29 at h
  split at h
  · exact laws_FnBitsParts_ok X0 hX n _ K h
  · exact D28_ok X0 hX n _ _ _ h
def spec_DrawCompareBits.j0 (K : Int → List Int → Int → List Int → Prop) (n : Nat) (r4 : Int) (r5 : List Int) (j103 : Bool) (j104 : List Int) (j105 : Int) : Prop :=
  if j103 = true then ((spec_l1Rd_oddBits.c n j104 j105 (fun r116 r117 r118 r119 => K r4 r5 r116 r117)) ∧ (spec_l1Rd_oddBits.c n j104 j105 (fun r120 r121 r122 r123 => K r4 r5 r120 r121))) else ((spec_l1Rd_bits.c n j104 j105 r4 (fun r134 r135 r136 r137 => K r4 r5 r134 r135)) ∧ (spec_l1Rd_bits.c n j104 j105 r4 (fun r138 r139 r140 r141 => K r4 r5 r138 r139)))
def spec_DrawCompareBits.w (n : Nat) (a1 : List Int) (K : Int → List Int → Int → List Int → Prop) : Prop :=
  spec_l1Open.c n a1 (fun r2 r3 => spec_l1Rd_oddBits.c n r2 r3 (fun r4 r5 r6 r7 => spec_l1Rd_once.c n r6 r7 3 (fun r11 r12 r13 => if r11 = true then ((((grd (decide (([] : List (Int)).length + r5.length ≤ 7818749353073)) (K r4 r5 r4 (([] : List (Int)) ++ r5))) ∧ (grd (decide (([] : List (Int)).length + r5.length ≤ 7818749353073)) (K r4 r5 r4 (([] : List (Int)) ++ r5)))) ∧ ((grd (decide (([] : List (Int)).length + r5.length ≤ 7818749353073)) (K r4 r5 r4 (([] : List (Int)) ++ r5))) ∧ (grd (decide (([] : List (Int)).length + r5.length ≤ 7818749353073)) ((K r4 r5 r4 (([] : List (Int)) ++ r5)) ∧ (K r4 r5 r4 (([] : List (Int)) ++ r5))))) ∧ ((grd (decide (([] : List (Int)).length + r5.length ≤ 7818749353073)) (K r4 r5 r4 (([] : List (Int)) ++ r5))) ∧ ((grd (decide (([] : List (Int)).length + r5.length ≤ 7818749353073)) (K r4 r5 r4 (([] : List (Int)) ++ r5))) ∧ (grd (decide (([] : List (Int)).length + r5.length ≤ 7818749353073)) ((K r4 r5 r4 (([] : List (Int)) ++ r5)) ∧ (K r4 r5 r4 (([] : List (Int)) ++ r5))))))) ∧ (((grd (decide (([] : List (Int)).length + r5.length ≤ 7818749353073)) (K r4 r5 r4 (([] : List (Int)) ++ r5))) ∧ (grd (decide (([] : List (Int)).length + r5.length ≤ 7818749353073)) (K r4 r5 r4 (([] : List (Int)) ++ r5)))) ∧ ((grd (decide (([] : List (Int)).length + r5.length ≤ 7818749353073)) (K r4 r5 r4 (([] : List (Int)) ++ r5))) ∧ (grd (decide (([] : List (Int)).length + r5.length ≤ 7818749353073)) (K r4 r5 r4 (([] : List (Int)) ++ r5)))) ∧ ((grd (decide (([] : List (Int)).length + r5.length ≤ 7818749353073)) (K r4 r5 r4 (([] : List (Int)) ++ r5))) ∧ ((grd (decide (([] : List (Int)).length + r5.length ≤ 7818749353073)) (K r4 r5 r4 (([] : List (Int)) ++ r5))) ∧ (grd (decide (([] : List (Int)).length + r5.length ≤ 7818749353073)) (K r4 r5 r4 (([] : List (Int)) ++ r5)))))) ∧ (((grd (decide (([] : List (Int)).length + r5.length ≤ 7818749353073)) (K r4 r5 r4 (([] : List (Int)) ++ r5))) ∧ (grd (decide (([] : List (Int)).length + r5.length ≤ 7818749353073)) ((K r4 r5 r4 (([] : List (Int)) ++ r5)) ∧ (K r4 r5 r4 (([] : List (Int)) ++ r5))))) ∧ ((grd (decide (([] : List (Int)).length + r5.length ≤ 7818749353073)) (K r4 r5 r4 (([] : List (Int)) ++ r5))) ∧ (grd (decide (([] : List (Int)).length + r5.length ≤ 7818749353073)) (K r4 r5 r4 (([] : List (Int)) ++ r5)))) ∧ (grd (decide (([] : List (Int)).length + r5.length ≤ 7818749353073)) ((K r4 r5 r4 (([] : List (Int)) ++ r5)) ∧ (K r4 r5 r4 (([] : List (Int)) ++ r5))))) ∧ (((grd (decide (([] : List (Int)).length + r5.length ≤ 7818749353073)) (K r4 r5 r4 (([] : List (Int)) ++ r5))) ∧ ((grd (decide (([] : List (Int)).length + r5.length ≤ 7818749353073)) (K r4 r5 r4 (([] : List (Int)) ++ r5))) ∧ (grd (decide (([] : List (Int)).length + r5.length ≤ 7818749353073)) ((K r4 r5 r4 (([] : List (Int)) ++ r5)) ∧ (K r4 r5 r4 (([] : List (Int)) ++ r5)))))) ∧ ((grd (decide (([] : List (Int)).length + r5.length ≤ 7818749353073)) (K r4 r5 r4 (([] : List (Int)) ++ r5))) ∧ ((grd (decide (([] : List (Int)).length + r5.length ≤ 7818749353073)) (K r4 r5 r4 (([] : List (Int)) ++ r5))) ∧ (grd (decide (([] : List (Int)).length + r5.length ≤ 7818749353073)) (K r4 r5 r4 (([] : List (Int)) ++ r5))))) ∧ (((grd (decide (([] : List (Int)).length + r5.length ≤ 7818749353073)) (K r4 r5 r4 (([] : List (Int)) ++ r5))) ∧ (grd (decide (([] : List (Int)).length + r5.length ≤ 7818749353073)) ((K r4 r5 r4 (([] : List (Int)) ++ r5)) ∧ (K r4 r5 r4 (([] : List (Int)) ++ r5))))) ∧ ((grd (decide (([] : List (Int)).length + r5.length ≤ 7818749353073)) (K r4 r5 r4 (([] : List (Int)) ++ r5))) ∧ (grd (decide (([] : List (Int)).length + r5.length ≤ 7818749353073)) (K r4 r5 r4 (([] : List (Int)) ++ r5)))) ∧ (grd (decide (([] : List (Int)).length + r5.length ≤ 7818749353073)) ((K r4 r5 r4 (([] : List (Int)) ++ r5)) ∧ (K r4 r5 r4 (([] : List (Int)) ++ r5))))))) else (spec_l1Rd_once.c n r12 r13 4 (fun r142 r143 r144 => if r142 = false then (spec_BitsOk.c n r4 r5 (fun r145 => spec_DrawCompareBits.j0 K n r4 r5 (!r145) r143 r144)) else (spec_DrawCompareBits.j0 K n r4 r5 true r143 r144))))))
def spec_DrawCompareBits.c : Nat → List Int → (Int → List Int → Int → List Int → Prop) → Prop
  | 0, _, _ => False
  | n + 1, a1, K => spec_DrawCompareBits.w n  a1 K
theorem spec_DrawCompareBits_ok (X0 : CallF) (hX : CallF.Mono X0) : ∀ (n : Nat) (a1 : List Int) (K : RES → Prop), spec_DrawCompareBits.c n a1 (fun r0 r1 r2 r3 => K ⟨.tup [.agg [.int .i64 r0, .row ⟨52, .int .u64, r1, 99, none⟩], .agg [.int .i64 r2, .row ⟨52, .int .u64, r3, 99, none⟩]], []⟩) → callM C X0 n 15 [.c (.dat 5 (.int .u8) a1)] K := by
  intro n
  cases n with
  | zero => intros; exact absurd ‹_› id
  | succ n =>
    intro a1 K h
    exact call_of (fn := Try.f15) (c := bodyOf Try.f15) hX (by kernel_rfl) (by kernel_rfl) (call := D29 n) (lp := fun _ _ _ => False) (D29_ok X0 hX n) (fun _ _ _ h => h.elim) (by kernel_rfl) h
def D30 (n : Nat) : CallF := fun f a K => match f, a with
  | 15, [.c (.dat 5 (.int .u8) a1)] => spec_DrawCompareBits.c n a1 (fun r0 r1 r2 r3 => K ⟨.tup [.agg [.int .i64 r0, .row ⟨52, .int .u64, r1, 99, none⟩], .agg [.int .i64 r2, .row ⟨52, .int .u64, r3, 99, none⟩]], []⟩)
  | f, a => D29 n f a K
theorem D30_ok (X0 : CallF) (hX : CallF.Mono X0) (n : Nat) : ∀ f a K, D30 n f a K → callM C X0 n f a K := by
  intro f a K h
  unfold D30 at h
  split at h
  · exact spec_DrawCompareBits_ok X0 hX n _ K h
  · exact D29_ok X0 hX n _ _ _ h

end Go.Vsi
end

section
set_option linter.unusedVariables false
namespace Go.Vsi
open Go.Proofs

def impl_Bits_compare.l2.b (n : Nat) (x6 : Int) (x7 : List Int) (x8 : Int) (x9 : List Int) (again2 : Int → Prop) (x5 : Int) (Kx0w2 : Prop) (Kr2 : Int → Prop) : Prop :=
  if (decide (x5 ≥ 0)) = true then (grd (decide (0 ≤ x5) && decide (x5 < (x7.length : Int))) (grd (decide (0 ≤ x5) && decide (x5 < (x9.length : Int))) (let t15 : Bool := decide (rd x7 (Int.toNat x5) < rd x9 (Int.toNat x5)); if t15 = true then (Kr2 (-1)) else (grd (decide (0 ≤ x5) && decide (x5 < (x7.length : Int))) (grd (decide (0 ≤ x5) && decide (x5 < (x9.length : Int))) (let t17 : Bool := decide (rd x7 (Int.toNat x5) > rd x9 (Int.toNat x5)); if t17 = true then (Kr2 1) else (again2 (IntKind.wrap .i64 (x5 - 1))))))))) else (Kx0w2)
def impl_Bits_compare.l2 : Nat → Int → List Int → Int → List Int → Int → Prop → (Int → Prop) → Prop
  | 0, _, _, _, _, _, _, _ => False
  | n + 1, x6, x7, x8, x9, x5, Kx0w2, Kr2 => impl_Bits_compare.l2.b n  x6 x7 x8 x9 (fun x5q => impl_Bits_compare.l2 n x6 x7 x8 x9 x5q Kx0w2 Kr2) x5 Kx0w2 Kr2
def impl_Bits_compare.w (n : Nat) (lp2 : Int → List Int → Int → List Int → Int → Prop → (Int → Prop) → Prop) (a1 : Int) (a2 : List Int) (a3 : Int) (a4 : List Int) (K : Int → Prop) : Prop :=
  lp2 a1 a2 a3 a4 (IntKind.wrap .i64 ((a2.length : Int) - 1)) (K 0) (fun y19 => K y19)
def impl_Bits_compare.c : Nat → Int → List Int → Int → List Int → (Int → Prop) → Prop
  | 0, _, _, _, _, _ => False
  | n + 1, a1, a2, a3, a4, K => impl_Bits_compare.w n (impl_Bits_compare.l2 n) a1 a2 a3 a4 K
theorem impl_Bits_compare.l2_ok (X0 : CallF) (hX : CallF.Mono X0) : ∀ (n : Nat) (x5 : Int) (x6 : Int) (x7 : List Int) (x8 : Int) (x9 : List Int) (K : X → St → Prop), impl_Bits_compare.l2 n x6 x7 x8 x9 x5 (K (.exit 0) ⟨[], [], [], [], []⟩) (fun y0 => K .ret ⟨[(4, .c (.int .i64 y0))], [], [], [], []⟩) → loopM C X0 n 41 2 ⟨[(2, .c (.pbox 2 0)), (3, .c (.pbox 3 0)), (5, .c (.int .i64 x5))], [], [(2, ⟨26, [.int .i64 x6, .dat 52 (.int .u64) x7], false⟩), (3, ⟨26, [.int .i64 x8, .dat 52 (.int .u64) x9], false⟩)], [], []⟩ K := by
  intro n
  induction n with
  | zero => intros; exact absurd ‹_› id
  | succ n ih =>
    intro x5 x6 x7 x8 x9 K h
    refine loop_of (fn := Try.f41) (c := bodyOf Try.f41) (a := loopOf Try.f41 2) (li := liOf (C.fi 41).loops 2) hX (by kernel_rfl) (by kernel_rfl) (by kernel_rfl) (by kernel_rfl) (call := D30 n) (lp := fun _ _ _ => False) (again := fun st => match st with | ⟨[(2, .c (.pbox 2 0)), (3, .c (.pbox 3 0)), (5, .c (.int .i64 x5))], [], [(2, ⟨26, [.int .i64 x6, .dat 52 (.int .u64) x7], false⟩), (3, ⟨26, [.int .i64 x8, .dat 52 (.int .u64) x9], false⟩)], [], []⟩ => impl_Bits_compare.l2 n x6 x7 x8 x9 x5 (K (.exit 0) ⟨[], [], [], [], []⟩) (fun y0 => K .ret ⟨[(4, .c (.int .i64 y0))], [], [], [], []⟩) | _ => False) (D30_ok X0 hX n) (fun _ _ _ h => h.elim) ?_ (by kernel_rfl) h
    intro s hs

    split at hs
    · exact ih _ _ _ _ _ K hs
    · exact hs.elim
theorem impl_Bits_compare_ok (X0 : CallF) (hX : CallF.Mono X0) : ∀ (n : Nat) (a1 : Int) (a2 : List Int) (a3 : Int) (a4 : List Int) (K : RES → Prop), impl_Bits_compare.c n a1 a2 a3 a4 (fun r0 => K ⟨.c (.int .i64 r0), []⟩) → callM C X0 n 41 [.agg [.int .i64 a1, .dat 52 (.int .u64) a2], .agg [.int .i64 a3, .dat 52 (.int .u64) a4]] K := by
  intro n
  cases n with
  | zero => intros; exact absurd ‹_› id
  | succ n =>
    intro a1 a2 a3 a4 K h
    exact call_of (fn := Try.f41) (c := bodyOf Try.f41) hX (by kernel_rfl) (by kernel_rfl) (call := D30 n) (lp := fun k st K => match k, st with | 2, ⟨[(2, .c (.pbox 2 0)), (3, .c (.pbox 3 0)), (5, .c (.int .i64 x5))], [], [(2, ⟨26, [.int .i64 x6, .dat 52 (.int .u64) x7], false⟩), (3, ⟨26, [.int .i64 x8, .dat 52 (.int .u64) x9], false⟩)], [], []⟩ => impl_Bits_compare.l2 n x6 x7 x8 x9 x5 (K (.exit 0) ⟨[], [], [], [], []⟩) (fun y0 => K .ret ⟨[(4, .c (.int .i64 y0))], [], [], [], []⟩) | _, _ => False) (D30_ok X0 hX n) (by intro k st K h; split at h <;> first | exact h.elim | exact impl_Bits_compare.l2_ok X0 hX n _ _ _ _ _ K h) (by kernel_rfl) h
def D31 (n : Nat) : CallF := fun f a K => match f, a with
  | 41, [.agg [.int .i64 a1, .dat 52 (.int .u64) a2], .agg [.int .i64 a3, .dat 52 (.int .u64) a4]] => impl_Bits_compare.c n a1 a2 a3 a4 (fun r0 => K ⟨.c (.int .i64 r0), []⟩)
  | f, a => D30 n f a K
theorem D31_ok (X0 : CallF) (hX : CallF.Mono X0) (n : Nat) : ∀ f a K, D31 n f a K → callM C X0 n f a K := by
  intro f a K h
  unfold D31 at h
  split at h
  · exact impl_Bits_compare_ok X0 hX n _ _ _ _ K h
  · exact D30_ok X0 hX n _ _ _ h
def impl_CompareBits.w (n : Nat) (a1 : Int) (a2 : List Int) (a3 : Int) (a4 : List Int) (K : Int → Prop) : Prop :=
  impl_BitsOk.c n a1 a2 (fun r15 => if (!r15) = false then (impl_BitsOk.c n a3 a4 (fun r16 => if (!r16) = false then (if (!(decide (a1 = a3))) = true then (K (-2)) else (impl_Bits_compare.c n a1 a2 a3 a4 (fun r17 => K r17))) else (K (-2)))) else (K (-2)))
def impl_CompareBits.c : Nat → Int → List Int → Int → List Int → (Int → Prop) → Prop
  | 0, _, _, _, _, _ => False
  | n + 1, a1, a2, a3, a4, K => impl_CompareBits.w n  a1 a2 a3 a4 K
theorem impl_CompareBits_ok (X0 : CallF) (hX : CallF.Mono X0) : ∀ (n : Nat) (a1 : Int) (a2 : List Int) (a3 : Int) (a4 : List Int) (K : RES → Prop), impl_CompareBits.c n a1 a2 a3 a4 (fun r0 => K ⟨.c (.int .i64 r0), []⟩) → callM C X0 n 16 [.agg [.int .i64 a1, .dat 52 (.int .u64) a2], .agg [.int .i64 a3, .dat 52 (.int .u64) a4]] K := by
  intro n
  cases n with
  | zero => intros; exact absurd ‹_› id
  | succ n =>
    intro a1 a2 a3 a4 K h
    exact call_of (fn := Try.f16) (c := bodyOf Try.f16) hX (by kernel_rfl) (by kernel_rfl) (call := D31 n) (lp := fun _ _ _ => False) (D31_ok X0 hX n) (fun _ _ _ h => h.elim) (by kernel_rfl) h
def D32 (n : Nat) : CallF := fun f a K => match f, a with
  | 16, [.agg [.int .i64 a1, .dat 52 (.int .u64) a2], .agg [.int .i64 a3, .dat 52 (.int .u64) a4]] => impl_CompareBits.c n a1 a2 a3 a4 (fun r0 => K ⟨.c (.int .i64 r0), []⟩)
  | f, a => D31 n f a K
theorem D32_ok (X0 : CallF) (hX : CallF.Mono X0) (n : Nat) : ∀ f a K, D32 n f a K → callM C X0 n f a K := by
  intro f a K h
  unfold D32 at h
  split at h
  · exact impl_CompareBits_ok X0 hX n _ _ _ _ K h
  · exact D31_ok X0 hX n _ _ _ h
def spec_CompareBits.l4.b (n : Nat) (x11 : Int) (x12 : List Int) (x13 : Int) (x14 : List Int) (again4 : Int → Prop) (x10 : Int) (Kx0w4 : Prop) (Kr4 : Int → Prop) : Prop :=
  if (decide (x10 ≥ 0)) = true then (spec_l1Bit.c n x11 x12 x10 (fun r17 => spec_l1Bit.c n x13 x14 x10 (fun r18 => if (decide (r17 < r18)) = true then (Kr4 (-1)) else (if (decide (r17 > r18)) = true then (Kr4 1) else (again4 (IntKind.wrap .i64 (x10 - 1))))))) else (Kx0w4)
def spec_CompareBits.l4 : Nat → Int → List Int → Int → List Int → Int → Prop → (Int → Prop) → Prop
  | 0, _, _, _, _, _, _, _ => False
  | n + 1, x11, x12, x13, x14, x10, Kx0w4, Kr4 => spec_CompareBits.l4.b n  x11 x12 x13 x14 (fun x10q => spec_CompareBits.l4 n x11 x12 x13 x14 x10q Kx0w4 Kr4) x10 Kx0w4 Kr4
def spec_CompareBits.w (n : Nat) (lp4 : Int → List Int → Int → List Int → Int → Prop → (Int → Prop) → Prop) (a1 : Int) (a2 : List Int) (a3 : Int) (a4 : List Int) (K : Int → Prop) : Prop :=
  spec_BitsOk.c n a1 a2 (fun r26 => if (!r26) = false then (spec_BitsOk.c n a3 a4 (fun r27 => if (!r27) = false then (if (!(decide (a1 = a3))) = true then (K (-2)) else (lp4 a1 a2 a3 a4 (IntKind.wrap .i64 (a1 - 1)) (K 0) (fun y29 => K y29))) else (K (-2)))) else (K (-2)))
def spec_CompareBits.c : Nat → Int → List Int → Int → List Int → (Int → Prop) → Prop
  | 0, _, _, _, _, _ => False
  | n + 1, a1, a2, a3, a4, K => spec_CompareBits.w n (spec_CompareBits.l4 n) a1 a2 a3 a4 K
theorem spec_CompareBits.l4_ok (X0 : CallF) (hX : CallF.Mono X0) : ∀ (n : Nat) (x10 : Int) (x11 : Int) (x12 : List Int) (x13 : Int) (x14 : List Int) (K : X → St → Prop), spec_CompareBits.l4 n x11 x12 x13 x14 x10 (K (.exit 0) ⟨[], [], [], [], []⟩) (fun y0 => K .ret ⟨[(4, .c (.int .i64 y0))], [], [], [], []⟩) → loopM C X0 n 17 4 ⟨[(2, .c (.pbox 2 0)), (3, .c (.pbox 3 0)), (5, .c (.int .i64 x10))], [], [(2, ⟨26, [.int .i64 x11, .dat 52 (.int .u64) x12], false⟩), (3, ⟨26, [.int .i64 x13, .dat 52 (.int .u64) x14], false⟩)], [], []⟩ K := by
  intro n
  induction n with
  | zero => intros; exact absurd ‹_› id
  | succ n ih =>
    intro x10 x11 x12 x13 x14 K h
    refine loop_of (fn := Try.f17) (c := bodyOf Try.f17) (a := loopOf Try.f17 4) (li := liOf (C.fi 17).loops 4) hX (by kernel_rfl) (by kernel_rfl) (by kernel_rfl) (by kernel_rfl) (call := D32 n) (lp := fun _ _ _ => False) (again := fun st => match st with | ⟨[(2, .c (.pbox 2 0)), (3, .c (.pbox 3 0)), (5, .c (.int .i64 x10))], [], [(2, ⟨26, [.int .i64 x11, .dat 52 (.int .u64) x12], false⟩), (3, ⟨26, [.int .i64 x13, .dat 52 (.int .u64) x14], false⟩)], [], []⟩ => spec_CompareBits.l4 n x11 x12 x13 x14 x10 (K (.exit 0) ⟨[], [], [], [], []⟩) (fun y0 => K .ret ⟨[(4, .c (.int .i64 y0))], [], [], [], []⟩) | _ => False) (D32_ok X0 hX n) (fun _ _ _ h => h.elim) ?_ (by kernel_rfl) h
    intro s hs

    split at hs
    · exact ih _ _ _ _ _ K hs
    · exact hs.elim
theorem spec_CompareBits_ok (X0 : CallF) (hX : CallF.Mono X0) : ∀ (n : Nat) (a1 : Int) (a2 : List Int) (a3 : Int) (a4 : List Int) (K : RES → Prop), spec_CompareBits.c n a1 a2 a3 a4 (fun r0 => K ⟨.c (.int .i64 r0), []⟩) → callM C X0 n 17 [.agg [.int .i64 a1, .dat 52 (.int .u64) a2], .agg [.int .i64 a3, .dat 52 (.int .u64) a4]] K := by
  intro n
  cases n with
  | zero => intros; exact absurd ‹_› id
  | succ n =>
    intro a1 a2 a3 a4 K h
    exact call_of (fn := Try.f17) (c := bodyOf Try.f17) hX (by kernel_rfl) (by kernel_rfl) (call := D32 n) (lp := fun k st K => match k, st with | 4, ⟨[(2, .c (.pbox 2 0)), (3, .c (.pbox 3 0)), (5, .c (.int .i64 x10))], [], [(2, ⟨26, [.int .i64 x11, .dat 52 (.int .u64) x12], false⟩), (3, ⟨26, [.int .i64 x13, .dat 52 (.int .u64) x14], false⟩)], [], []⟩ => spec_CompareBits.l4 n x11 x12 x13 x14 x10 (K (.exit 0) ⟨[], [], [], [], []⟩) (fun y0 => K .ret ⟨[(4, .c (.int .i64 y0))], [], [], [], []⟩) | _, _ => False) (D32_ok X0 hX n) (by intro k st K h; split at h <;> first | exact h.elim | exact spec_CompareBits.l4_ok X0 hX n _ _ _ _ _ K h) (by kernel_rfl) h
def D33 (n : Nat) : CallF := fun f a K => match f, a with
  | 17, [.agg [.int .i64 a1, .dat 52 (.int .u64) a2], .agg [.int .i64 a3, .dat 52 (.int .u64) a4]] => spec_CompareBits.c n a1 a2 a3 a4 (fun r0 => K ⟨.c (.int .i64 r0), []⟩)
  | f, a => D32 n f a K
theorem D33_ok (X0 : CallF) (hX : CallF.Mono X0) (n : Nat) : ∀ f a K, D33 n f a K → callM C X0 n f a K := by
  intro f a K h
  unfold D33 at h
  split at h
  · exact spec_CompareBits_ok X0 hX n _ _ _ _ K h
  · exact D32_ok X0 hX n _ _ _ h
def spec_l1List.l3.b (n : Nat) (x5 : Int) (x6 : List Int) (again3 : Int → List Int → Prop) (x3 : Int) (x4 : List Int) (Kx0w3 : List Int → Prop) : Prop :=
  if (decide (x3 < x5)) = true then (spec_l1Bit.c n x5 x6 x3 (fun r8 => grd (decide (x4.length + ([r8] : List (Int)).length ≤ 35184372088832)) (again3 (IntKind.wrap .i64 (x3 + 1)) (x4 ++ ([r8] : List (Int)))))) else (Kx0w3 x4)
def spec_l1List.l3 : Nat → Int → List Int → Int → List Int → (List Int → Prop) → Prop
  | 0, _, _, _, _, _ => False
  | n + 1, x5, x6, x3, x4, Kx0w3 => spec_l1List.l3.b n  x5 x6 (fun x3q x4q => spec_l1List.l3 n x5 x6 x3q x4q Kx0w3) x3 x4 Kx0w3
def spec_l1List.w (n : Nat) (lp3 : Int → List Int → Int → List Int → (List Int → Prop) → Prop) (a1 : Int) (a2 : List Int) (K : List Int → Prop) : Prop :=
  lp3 a1 a2 0 ([] : List (Int)) (fun y10 => K y10)
def spec_l1List.c : Nat → Int → List Int → (List Int → Prop) → Prop
  | 0, _, _, _ => False
  | n + 1, a1, a2, K => spec_l1List.w n (spec_l1List.l3 n) a1 a2 K
theorem spec_l1List.l3_ok (X0 : CallF) (hX : CallF.Mono X0) : ∀ (n : Nat) (x3 : Int) (x4 : List Int) (x5 : Int) (x6 : List Int) (K : X → St → Prop), spec_l1List.l3 n x5 x6 x3 x4 (fun y0 => K (.exit 0) ⟨[(3, .c (.own 96))], [(96, ⟨5, .int .u8, y0, 99, none⟩)], [], [], []⟩) → loopM C X0 n 42 3 ⟨[(1, .c (.pbox 1 0)), (3, .c (.own 96)), (4, .c (.int .i64 x3))], [(96, ⟨5, .int .u8, x4, 99, none⟩)], [(1, ⟨26, [.int .i64 x5, .dat 52 (.int .u64) x6], false⟩)], [], []⟩ K := by
  intro n
  induction n with
  | zero => intros; exact absurd ‹_› id
  | succ n ih =>
    intro x3 x4 x5 x6 K h
    refine loop_of (fn := Try.f42) (c := bodyOf Try.f42) (a := loopOf Try.f42 3) (li := liOf (C.fi 42).loops 3) hX (by kernel_rfl) (by kernel_rfl) (by kernel_rfl) (by kernel_rfl) (call := D33 n) (lp := fun _ _ _ => False) (again := fun st => match st with | ⟨[(1, .c (.pbox 1 0)), (3, .c (.own 96)), (4, .c (.int .i64 x3))], [(96, ⟨5, .int .u8, x4, 99, none⟩)], [(1, ⟨26, [.int .i64 x5, .dat 52 (.int .u64) x6], false⟩)], [], []⟩ => spec_l1List.l3 n x5 x6 x3 x4 (fun y0 => K (.exit 0) ⟨[(3, .c (.own 96))], [(96, ⟨5, .int .u8, y0, 99, none⟩)], [], [], []⟩) | _ => False) (D33_ok X0 hX n) (fun _ _ _ h => h.elim) ?_ (by kernel_rfl) h
    intro s hs

    split at hs
    · exact ih _ _ _ _ K hs
    · exact hs.elim
theorem spec_l1List_ok (X0 : CallF) (hX : CallF.Mono X0) : ∀ (n : Nat) (a1 : Int) (a2 : List Int) (K : RES → Prop), spec_l1List.c n a1 a2 (fun r0 => K ⟨.c (.row ⟨5, .int .u8, r0, 99, none⟩), []⟩) → callM C X0 n 42 [.agg [.int .i64 a1, .dat 52 (.int .u64) a2]] K := by
  intro n
  cases n with
  | zero => intros; exact absurd ‹_› id
  | succ n =>
    intro a1 a2 K h
    exact call_of (fn := Try.f42) (c := bodyOf Try.f42) hX (by kernel_rfl) (by kernel_rfl) (call := D33 n) (lp := fun k st K => match k, st with | 3, ⟨[(1, .c (.pbox 1 0)), (3, .c (.own 96)), (4, .c (.int .i64 x3))], [(96, ⟨5, .int .u8, x4, 99, none⟩)], [(1, ⟨26, [.int .i64 x5, .dat 52 (.int .u64) x6], false⟩)], [], []⟩ => spec_l1List.l3 n x5 x6 x3 x4 (fun y0 => K (.exit 0) ⟨[(3, .c (.own 96))], [(96, ⟨5, .int .u8, y0, 99, none⟩)], [], [], []⟩) | _, _ => False) (D33_ok X0 hX n) (by intro k st K h; split at h <;> first | exact h.elim | exact spec_l1List.l3_ok X0 hX n _ _ _ _ K h) (by kernel_rfl) h
def D34 (n : Nat) : CallF := fun f a K => match f, a with
  | 42, [.agg [.int .i64 a1, .dat 52 (.int .u64) a2]] => spec_l1List.c n a1 a2 (fun r0 => K ⟨.c (.row ⟨5, .int .u8, r0, 99, none⟩), []⟩)
  | f, a => D33 n f a K
theorem D34_ok (X0 : CallF) (hX : CallF.Mono X0) (n : Nat) : ∀ f a K, D34 n f a K → callM C X0 n f a K := by
  intro f a K h
  unfold D34 at h
  split at h
  · exact spec_l1List_ok X0 hX n _ _ K h
  · exact D33_ok X0 hX n _ _ _ h
def spec_NextBits.l5.b (n : Nat) (x8 : List Int) (x9 : Int) (again5 : Int → List Int → Prop) (x6 : Int) (x7 : List Int) (Kx0w5 : List Int → Int → Prop) (Kr5 : Bool → List Int → Int → Prop) : Prop :=
  if (decide (x6 < (x7.length : Int))) = true then (grd (decide (0 ≤ x6) && decide (x6 < (x7.length : Int))) (let t15 : Int := IntKind.wrap .u8 (1 - (rd x7 (Int.toNat x6))); grd (decide (0 ≤ x6) && decide (x6 < (x7.length : Int))) (grd (decide (0 ≤ x6) && decide (x6 < ((List.set x7 (Int.toNat x6) t15).length : Int))) (let t16 : Int := rd (List.set x7 (Int.toNat x6) t15) (Int.toNat x6); if (decide (t16 = 1)) = true then (spec_l1From.c n (List.set x7 (Int.toNat x6) t15) (fun r17 r18 r19 => Kr5 r19 r18 r17)) else (again5 (IntKind.wrap .i64 (x6 + 1)) (List.set x7 (Int.toNat x6) t15)))))) else (Kx0w5 x8 x9)
def spec_NextBits.l5 : Nat → List Int → Int → Int → List Int → (List Int → Int → Prop) → (Bool → List Int → Int → Prop) → Prop
  | 0, _, _, _, _, _, _ => False
  | n + 1, x8, x9, x6, x7, Kx0w5, Kr5 => spec_NextBits.l5.b n  x8 x9 (fun x6q x7q => spec_NextBits.l5 n x8 x9 x6q x7q Kx0w5 Kr5) x6 x7 Kx0w5 Kr5
def spec_NextBits.w (n : Nat) (lp5 : List Int → Int → Int → List Int → (List Int → Int → Prop) → (Bool → List Int → Int → Prop) → Prop) (a1 : Int) (a2 : List Int) (K : Int → List Int → Bool → Prop) : Prop :=
  spec_BitsOk.c n a1 a2 (fun r4 => if (!r4) = true then (K 0 ([] : List (Int)) false) else (spec_l1List.c n a1 a2 (fun r5 => lp5 ([] : List (Int)) 0 0 r5 (fun y25 y26 => K 0 ([] : List (Int)) false) (fun y27 y28 y29 => K y29 y28 y27))))
def spec_NextBits.c : Nat → Int → List Int → (Int → List Int → Bool → Prop) → Prop
  | 0, _, _, _ => False
  | n + 1, a1, a2, K => spec_NextBits.w n (spec_NextBits.l5 n) a1 a2 K
theorem spec_NextBits.l5_ok (X0 : CallF) (hX : CallF.Mono X0) : ∀ (n : Nat) (x6 : Int) (x7 : List Int) (x8 : List Int) (x9 : Int) (K : X → St → Prop), spec_NextBits.l5 n x8 x9 x6 x7 (fun y0 y1 => K (.exit 0) ⟨[(2, .c (.pbox 2 0))], [(1000065, ⟨52, .int .u64, y0, 99, none⟩)], [(2, ⟨26, [.int .i64 y1, .own 1000065], false⟩)], [], []⟩) (fun y0 y1 y2 => K .ret ⟨[(2, .c (.pbox 2 0)), (3, .c (.bool y0))], [(1025, ⟨52, .int .u64, y1, 99, none⟩)], [(2, ⟨26, [.int .i64 y2, .own 1025], false⟩)], [], []⟩) → loopM C X0 n 18 5 ⟨[(2, .c (.pbox 2 0)), (4, .c (.own 352)), (5, .c (.int .i64 x6))], [(352, ⟨5, .int .u8, x7, 99, none⟩), (1000065, ⟨52, .int .u64, x8, 99, none⟩)], [(2, ⟨26, [.int .i64 x9, .own 1000065], false⟩)], [], []⟩ K := by
  intro n
  induction n with
  | zero => intros; exact absurd ‹_› id
  | succ n ih =>
    intro x6 x7 x8 x9 K h
    refine loop_of (fn := Try.f18) (c := bodyOf Try.f18) (a := loopOf Try.f18 5) (li := liOf (C.fi 18).loops 5) hX (by kernel_rfl) (by kernel_rfl) (by kernel_rfl) (by kernel_rfl) (call := D34 n) (lp := fun _ _ _ => False) (again := fun st => match st with | ⟨[(2, .c (.pbox 2 0)), (4, .c (.own 352)), (5, .c (.int .i64 x6))], [(352, ⟨5, .int .u8, x7, 99, none⟩), (1000065, ⟨52, .int .u64, x8, 99, none⟩)], [(2, ⟨26, [.int .i64 x9, .own 1000065], false⟩)], [], []⟩ => spec_NextBits.l5 n x8 x9 x6 x7 (fun y0 y1 => K (.exit 0) ⟨[(2, .c (.pbox 2 0))], [(1000065, ⟨52, .int .u64, y0, 99, none⟩)], [(2, ⟨26, [.int .i64 y1, .own 1000065], false⟩)], [], []⟩) (fun y0 y1 y2 => K .ret ⟨[(2, .c (.pbox 2 0)), (3, .c (.bool y0))], [(1025, ⟨52, .int .u64, y1, 99, none⟩)], [(2, ⟨26, [.int .i64 y2, .own 1025], false⟩)], [], []⟩) | _ => False) (D34_ok X0 hX n) (fun _ _ _ h => h.elim) ?_ (by kernel_rfl) h
    intro s hs

    split at hs
    · exact ih _ _ _ _ K hs
    · exact hs.elim
theorem spec_NextBits_ok (X0 : CallF) (hX : CallF.Mono X0) : ∀ (n : Nat) (a1 : Int) (a2 : List Int) (K : RES → Prop), spec_NextBits.c n a1 a2 (fun r0 r1 r2 => K ⟨.tup [.agg [.int .i64 r0, .row ⟨52, .int .u64, r1, 99, none⟩], .c (.bool r2)], []⟩) → callM C X0 n 18 [.agg [.int .i64 a1, .dat 52 (.int .u64) a2]] K := by
  intro n
  cases n with
  | zero => intros; exact absurd ‹_› id
  | succ n =>
    intro a1 a2 K h
    exact call_of (fn := Try.f18) (c := bodyOf Try.f18) hX (by kernel_rfl) (by kernel_rfl) (call := D34 n) (lp := fun k st K => match k, st with | 5, ⟨[(2, .c (.pbox 2 0)), (4, .c (.own 352)), (5, .c (.int .i64 x6))], [(352, ⟨5, .int .u8, x7, 99, none⟩), (1000065, ⟨52, .int .u64, x8, 99, none⟩)], [(2, ⟨26, [.int .i64 x9, .own 1000065], false⟩)], [], []⟩ => spec_NextBits.l5 n x8 x9 x6 x7 (fun y0 y1 => K (.exit 0) ⟨[(2, .c (.pbox 2 0))], [(1000065, ⟨52, .int .u64, y0, 99, none⟩)], [(2, ⟨26, [.int .i64 y1, .own 1000065], false⟩)], [], []⟩) (fun y0 y1 y2 => K .ret ⟨[(2, .c (.pbox 2 0)), (3, .c (.bool y0))], [(1025, ⟨52, .int .u64, y1, 99, none⟩)], [(2, ⟨26, [.int .i64 y2, .own 1025], false⟩)], [], []⟩) | _, _ => False) (D34_ok X0 hX n) (by intro k st K h; split at h <;> first | exact h.elim | exact spec_NextBits.l5_ok X0 hX n _ _ _ _ K h) (by kernel_rfl) h
def D35 (n : Nat) : CallF := fun f a K => match f, a with
  | 18, [.agg [.int .i64 a1, .dat 52 (.int .u64) a2]] => spec_NextBits.c n a1 a2 (fun r0 r1 r2 => K ⟨.tup [.agg [.int .i64 r0, .row ⟨52, .int .u64, r1, 99, none⟩], .c (.bool r2)], []⟩)
  | f, a => D34 n f a K
theorem D35_ok (X0 : CallF) (hX : CallF.Mono X0) (n : Nat) : ∀ f a K, D35 n f a K → callM C X0 n f a K := by
  intro f a K h
  unfold D35 at h
  split at h
  · exact spec_NextBits_ok X0 hX n _ _ K h
  · exact D34_ok X0 hX n _ _ _ h
def slices_Clone.w (n : Nat) (a1 : List Int) (K : List Int → Prop) : Prop :=
  (a1.length = 0 → (K ([] : List (Int)))) ∧ (grd (decide (([] : List (Int)).length + a1.length ≤ 7818749353073)) (K (([] : List (Int)) ++ a1)))
def slices_Clone.c : Nat → List Int → (List Int → Prop) → Prop
  | 0, _, _ => False
  | n + 1, a1, K => slices_Clone.w n  a1 K
theorem slices_Clone_ok (X0 : CallF) (hX : CallF.Mono X0) : ∀ (n : Nat) (a1 : List Int) (K : RES → Prop), slices_Clone.c n a1 (fun r0 => K ⟨.c (.row ⟨52, .int .u64, r0, 99, none⟩), []⟩) → callM C X0 n 58 [.c (.dat 52 (.int .u64) a1)] K := by
  intro n
  cases n with
  | zero => intros; exact absurd ‹_› id
  | succ n =>
    intro a1 K h
    exact call_of (fn := Try.f58) (c := bodyOf Try.f58) hX (by kernel_rfl) (by kernel_rfl) (call := D35 n) (lp := fun _ _ _ => False) (D35_ok X0 hX n) (fun _ _ _ h => h.elim) (by kernel_rfl) h
def D36 (n : Nat) : CallF := fun f a K => match f, a with
  | 58, [.c (.dat 52 (.int .u64) a1)] => slices_Clone.c n a1 (fun r0 => K ⟨.c (.row ⟨52, .int .u64, r0, 99, none⟩), []⟩)
  | f, a => D35 n f a K
theorem D36_ok (X0 : CallF) (hX : CallF.Mono X0) (n : Nat) : ∀ f a K, D36 n f a K → callM C X0 n f a K := by
  intro f a K h
  unfold D36 at h
  split at h
  · exact slices_Clone_ok X0 hX n _ K h
  · exact D35_ok X0 hX n _ _ _ h
def impl_cloneBits.w (n : Nat) (a1 : Int) (a2 : List Int) (K : Int → List Int → Prop) : Prop :=
  (slices_Clone.c n a2 (fun r6 => K a1 r6)) ∧ (slices_Clone.c n a2 (fun r7 => K a1 r7))
def impl_cloneBits.c : Nat → Int → List Int → (Int → List Int → Prop) → Prop
  | 0, _, _, _ => False
  | n + 1, a1, a2, K => impl_cloneBits.w n  a1 a2 K
theorem impl_cloneBits_ok (X0 : CallF) (hX : CallF.Mono X0) : ∀ (n : Nat) (a1 : Int) (a2 : List Int) (K : RES → Prop), impl_cloneBits.c n a1 a2 (fun r0 r1 => K ⟨.agg [.int .i64 r0, .row ⟨52, .int .u64, r1, 99, none⟩], []⟩) → callM C X0 n 44 [.agg [.int .i64 a1, .dat 52 (.int .u64) a2]] K := by
  intro n
  cases n with
  | zero => intros; exact absurd ‹_› id
  | succ n =>
    intro a1 a2 K h
    exact call_of (fn := Try.f44) (c := bodyOf Try.f44) hX (by kernel_rfl) (by kernel_rfl) (call := D36 n) (lp := fun _ _ _ => False) (D36_ok X0 hX n) (fun _ _ _ h => h.elim) (by kernel_rfl) h
def D37 (n : Nat) : CallF := fun f a K => match f, a with
  | 44, [.agg [.int .i64 a1, .dat 52 (.int .u64) a2]] => impl_cloneBits.c n a1 a2 (fun r0 r1 => K ⟨.agg [.int .i64 r0, .row ⟨52, .int .u64, r1, 99, none⟩], []⟩)
  | f, a => D36 n f a K
theorem D37_ok (X0 : CallF) (hX : CallF.Mono X0) (n : Nat) : ∀ f a K, D37 n f a K → callM C X0 n f a K := by
  intro f a K h
  unfold D37 at h
  split at h
  · exact impl_cloneBits_ok X0 hX n _ _ K h
  · exact D36_ok X0 hX n _ _ _ h
def impl_NextBits.l5.b (n : Nat) (x12 : Int) (x15 : List Int) (x16 : Int) (x17 : Int) (again5 : Int → List Int → Prop) (x13 : Int) (x14 : List Int) (Kx0w5 : List Int → List Int → Int → Int → Prop) : Prop :=
  if (decide (x13 < x12)) = true then (grd (decide (0 ≤ x13) && decide (x13 < (x14.length : Int))) (let t20 : Int := IntKind.wrap .u64 ((rd x14 (Int.toNat x13)) + 1); grd (decide (0 ≤ x13) && decide (x13 < (x14.length : Int))) (grd (decide (0 ≤ x13) && decide (x13 < ((List.set x14 (Int.toNat x13) t20).length : Int))) (let t21 : Int := rd (List.set x14 (Int.toNat x13) t20) (Int.toNat x13); if (!(decide (t21 = 0))) = true then (Kx0w5 (List.set x14 (Int.toNat x13) t20) x15 x16 x17) else (again5 (IntKind.wrap .i64 (x13 + 1)) (List.set x14 (Int.toNat x13) t20)))))) else (Kx0w5 x14 x15 x16 x17)
def impl_NextBits.l5 : Nat → Int → List Int → Int → Int → Int → List Int → (List Int → List Int → Int → Int → Prop) → Prop
  | 0, _, _, _, _, _, _, _ => False
  | n + 1, x12, x15, x16, x17, x13, x14, Kx0w5 => impl_NextBits.l5.b n  x12 x15 x16 x17 (fun x13q x14q => impl_NextBits.l5 n x12 x15 x16 x17 x13q x14q Kx0w5) x13 x14 Kx0w5
def impl_NextBits.j0 (K : Int → List Int → Bool → Prop) (a1 : Int) (a2 : List Int) (lp5 : Int → List Int → Int → Int → Int → List Int → (List Int → List Int → Int → Int → Prop) → Prop) (n : Nat) (j33 : Bool) : Prop :=
  if j33 = true then (K 0 ([] : List (Int)) false) else (impl_cloneBits.c n a1 a2 (fun r34 r35 => lp5 (r35.length : Int) ([] : List (Int)) 0 r34 0 r35 (fun y40 y41 y42 y43 => K y43 y40 true)))
def impl_NextBits.w (n : Nat) (lp5 : Int → List Int → Int → Int → Int → List Int → (List Int → List Int → Int → Int → Prop) → Prop) (a1 : Int) (a2 : List Int) (K : Int → List Int → Bool → Prop) : Prop :=
  impl_BitsOk.c n a1 a2 (fun r44 => if (!r44) = false then ((impl_CountOnes.c n a1 a2 (fun r45 => impl_NextBits.j0 K a1 a2 lp5 n (decide (r45 = a1)))) ∧ (impl_CountOnes.c n a1 a2 (fun r46 => impl_NextBits.j0 K a1 a2 lp5 n (decide (r46 = a1))))) else ((impl_NextBits.j0 K a1 a2 lp5 n true) ∧ (impl_NextBits.j0 K a1 a2 lp5 n true)))
def impl_NextBits.c : Nat → Int → List Int → (Int → List Int → Bool → Prop) → Prop
  | 0, _, _, _ => False
  | n + 1, a1, a2, K => impl_NextBits.w n (impl_NextBits.l5 n) a1 a2 K
theorem impl_NextBits.l5_ok (X0 : CallF) (hX : CallF.Mono X0) : ∀ (n : Nat) (x12 : Int) (x13 : Int) (x14 : List Int) (x15 : List Int) (x16 : Int) (x17 : Int) (K : X → St → Prop), impl_NextBits.l5 n x12 x15 x16 x17 x13 x14 (fun y0 y1 y2 y3 => K (.exit 0) ⟨[(2, .c (.pbox 2 0)), (4, .c (.pbox 4 0))], [(577, ⟨52, .int .u64, y0, 99, none⟩), (1000065, ⟨52, .int .u64, y1, 99, none⟩)], [(2, ⟨26, [.int .i64 y2, .own 1000065], false⟩), (4, ⟨26, [.int .i64 y3, .own 577], false⟩)], [], []⟩) → loopM C X0 n 19 5 ⟨[(2, .c (.pbox 2 0)), (4, .c (.pbox 4 0)), (21, .c (.int .i64 x12)), (22, .c (.int .i64 x13))], [(577, ⟨52, .int .u64, x14, 99, none⟩), (1000065, ⟨52, .int .u64, x15, 99, none⟩)], [(2, ⟨26, [.int .i64 x16, .own 1000065], false⟩), (4, ⟨26, [.int .i64 x17, .own 577], false⟩)], [], []⟩ K := by
  intro n
  induction n with
  | zero => intros; exact absurd ‹_› id
  | succ n ih =>
    intro x12 x13 x14 x15 x16 x17 K h
    refine loop_of (fn := Try.f19) (c := bodyOf Try.f19) (a := loopOf Try.f19 5) (li := liOf (C.fi 19).loops 5) hX (by kernel_rfl) (by kernel_rfl) (by kernel_rfl) (by kernel_rfl) (call := D37 n) (lp := fun _ _ _ => False) (again := fun st => match st with | ⟨[(2, .c (.pbox 2 0)), (4, .c (.pbox 4 0)), (21, .c (.int .i64 x12)), (22, .c (.int .i64 x13))], [(577, ⟨52, .int .u64, x14, 99, none⟩), (1000065, ⟨52, .int .u64, x15, 99, none⟩)], [(2, ⟨26, [.int .i64 x16, .own 1000065], false⟩), (4, ⟨26, [.int .i64 x17, .own 577], false⟩)], [], []⟩ => impl_NextBits.l5 n x12 x15 x16 x17 x13 x14 (fun y0 y1 y2 y3 => K (.exit 0) ⟨[(2, .c (.pbox 2 0)), (4, .c (.pbox 4 0))], [(577, ⟨52, .int .u64, y0, 99, none⟩), (1000065, ⟨52, .int .u64, y1, 99, none⟩)], [(2, ⟨26, [.int .i64 y2, .own 1000065], false⟩), (4, ⟨26, [.int .i64 y3, .own 577], false⟩)], [], []⟩) | _ => False) (D37_ok X0 hX n) (fun _ _ _ h => h.elim) ?_ (by kernel_rfl) h
    intro s hs

    split at hs
    · exact ih _ _ _ _ _ _ K hs
    · exact hs.elim
theorem impl_NextBits_ok (X0 : CallF) (hX : CallF.Mono X0) : ∀ (n : Nat) (a1 : Int) (a2 : List Int) (K : RES → Prop), impl_NextBits.c n a1 a2 (fun r0 r1 r2 => K ⟨.tup [.agg [.int .i64 r0, .row ⟨52, .int .u64, r1, 99, none⟩], .c (.bool r2)], []⟩) → callM C X0 n 19 [.agg [.int .i64 a1, .dat 52 (.int .u64) a2]] K := by
  intro n
  cases n with
  | zero => intros; exact absurd ‹_› id
  | succ n =>
    intro a1 a2 K h
    exact call_of (fn := Try.f19) (c := bodyOf Try.f19) hX (by kernel_rfl) (by kernel_rfl) (call := D37 n) (lp := fun k st K => match k, st with | 5, ⟨[(2, .c (.pbox 2 0)), (4, .c (.pbox 4 0)), (21, .c (.int .i64 x12)), (22, .c (.int .i64 x13))], [(577, ⟨52, .int .u64, x14, 99, none⟩), (1000065, ⟨52, .int .u64, x15, 99, none⟩)], [(2, ⟨26, [.int .i64 x16, .own 1000065], false⟩), (4, ⟨26, [.int .i64 x17, .own 577], false⟩)], [], []⟩ => impl_NextBits.l5 n x12 x15 x16 x17 x13 x14 (fun y0 y1 y2 y3 => K (.exit 0) ⟨[(2, .c (.pbox 2 0)), (4, .c (.pbox 4 0))], [(577, ⟨52, .int .u64, y0, 99, none⟩), (1000065, ⟨52, .int .u64, y1, 99, none⟩)], [(2, ⟨26, [.int .i64 y2, .own 1000065], false⟩), (4, ⟨26, [.int .i64 y3, .own 577], false⟩)], [], []⟩) | _, _ => False) (D37_ok X0 hX n) (by intro k st K h; split at h <;> first | exact h.elim | exact impl_NextBits.l5_ok X0 hX n _ _ _ _ _ _ K h) (by kernel_rfl) h
def D38 (n : Nat) : CallF := fun f a K => match f, a with
  | 19, [.agg [.int .i64 a1, .dat 52 (.int .u64) a2]] => impl_NextBits.c n a1 a2 (fun r0 r1 r2 => K ⟨.tup [.agg [.int .i64 r0, .row ⟨52, .int .u64, r1, 99, none⟩], .c (.bool r2)], []⟩)
  | f, a => D37 n f a K
theorem D38_ok (X0 : CallF) (hX : CallF.Mono X0) (n : Nat) : ∀ f a K, D38 n f a K → callM C X0 n f a K := by
  intro f a K h
  unfold D38 at h
  split at h
  · exact impl_NextBits_ok X0 hX n _ _ K h
  · exact D37_ok X0 hX n _ _ _ h
def laws_FnBitsNext.j0 (K : Bool → Prop) (n : Nat) (r4 : Int) (r5 : List Int) : Prop :=
  spec_NextBits.c n r4 r5 (fun r14 r15 r16 => impl_NextBits.c n r4 r5 (fun r17 r18 r19 => if (!(r19 == r16)) = true then (K false) else (spec_BitsOk.c n r4 r5 (fun r21 => if (!r21) = true then (K true) else (if (!r19) = true then ((impl_CountOnes.c n r4 r5 (fun r30 => K (decide (r30 = r4)))) ∧ (impl_CountOnes.c n r4 r5 (fun r31 => K (decide (r31 = r4))))) else (impl_CompareBits.c n r4 r5 r17 r18 (fun r32 => K (decide (r32 = (-1))))))))))
def laws_FnBitsNext.w (n : Nat) (a1 : List Int) (K : Bool → Prop) : Prop :=
  laws_big.c n a1 (fun r3 => if r3 = true then (K true) else (spec_DrawCompareBits.c n a1 (fun r4 r5 r6 r7 => impl_CompareBits.c n r4 r5 r6 r7 (fun r8 => spec_CompareBits.c n r4 r5 r6 r7 (fun r36 => if (!(decide (r8 = r36))) = false then (if (!(decide (r8 = (-2)))) = true then (impl_CompareBits.c n r6 r7 r4 r5 (fun r37 => if (!(decide (r37 = IntKind.wrap .i64 (0 - r8)))) = true then (K false) else (laws_FnBitsNext.j0 K n r4 r5))) else (laws_FnBitsNext.j0 K n r4 r5)) else (K false))))))
def laws_FnBitsNext.c : Nat → List Int → (Bool → Prop) → Prop
  | 0, _, _ => False
  | n + 1, a1, K => laws_FnBitsNext.w n  a1 K
theorem laws_FnBitsNext_ok (X0 : CallF) (hX : CallF.Mono X0) : ∀ (n : Nat) (a1 : List Int) (K : RES → Prop), laws_FnBitsNext.c n a1 (fun r0 => K ⟨.c (.bool r0), []⟩) → callM C X0 n 4 [.c (.dat 5 (.int .u8) a1)] K := by
  intro n
  cases n with
  | zero => intros; exact absurd ‹_› id
  | succ n =>
    intro a1 K h
    exact call_of (fn := Try.f4) (c := bodyOf Try.f4) hX (by kernel_rfl) (by kernel_rfl) (call := D38 n) (lp := fun _ _ _ => False) (D38_ok X0 hX n) (fun _ _ _ h => h.elim) (by kernel_rfl) h
def D39 (n : Nat) : CallF := fun f a K => match f, a with
  | 4, [.c (.dat 5 (.int .u8) a1)] => laws_FnBitsNext.c n a1 (fun r0 => K ⟨.c (.bool r0), []⟩)
  | f, a => D38 n f a K
theorem D39_ok (X0 : CallF) (hX : CallF.Mono X0) (n : Nat) : ∀ f a K, D39 n f a K → callM C X0 n f a K := by
  intro f a K h
  unfold D39 at h
  split at h
  · exact laws_FnBitsNext_ok X0 hX n _ K h
  · exact D38_ok X0 hX n _ _ _ h
def spec_DrawTurnBits.w (n : Nat) (a1 : List Int) (K : Int → List Int → Int → Prop) : Prop :=
  spec_l1Open.c n a1 (fun r2 r3 => spec_l1Rd_oddBits.c n r2 r3 (fun r4 r5 r6 r7 => ((spec_l1Rd_below.c n r6 r7 2 (fun r53 r54 r55 => grd (decide (0 ≤ r53) && decide (r53 < (([200, 4096] : List (Int)).length : Int))) (let t56 : Int := rd ([200, 4096] : List (Int)) (Int.toNat r53); spec_l1Rd_off.c n r54 r55 0 t56 (fun r57 r58 r59 => K r4 r5 r57)))) ∧ (spec_l1Rd_below.c n r6 r7 2 (fun r60 r61 r62 => grd (decide (0 ≤ r60) && decide (r60 < (([200, 4096] : List (Int)).length : Int))) (let t63 : Int := rd ([200, 4096] : List (Int)) (Int.toNat r60); spec_l1Rd_off.c n r61 r62 0 t63 (fun r64 r65 r66 => K r4 r5 r64))))) ∧ ((spec_l1Rd_below.c n r6 r7 2 (fun r67 r68 r69 => grd (decide (0 ≤ r67) && decide (r67 < (([200, 4096] : List (Int)).length : Int))) (let t70 : Int := rd ([200, 4096] : List (Int)) (Int.toNat r67); spec_l1Rd_off.c n r68 r69 0 t70 (fun r71 r72 r73 => K r4 r5 r71)))) ∧ (spec_l1Rd_below.c n r6 r7 2 (fun r74 r75 r76 => grd (decide (0 ≤ r74) && decide (r74 < (([200, 4096] : List (Int)).length : Int))) (let t77 : Int := rd ([200, 4096] : List (Int)) (Int.toNat r74); (spec_l1Rd_off.c n r75 r76 0 t77 (fun r78 r79 r80 => K r4 r5 r78)) ∧ (spec_l1Rd_off.c n r75 r76 0 t77 (fun r81 r82 r83 => K r4 r5 r81)))))) ∧ (spec_l1Rd_below.c n r6 r7 2 (fun r84 r85 r86 => (grd (decide (0 ≤ r84) && decide (r84 < (([200, 4096] : List (Int)).length : Int))) (let t87 : Int := rd ([200, 4096] : List (Int)) (Int.toNat r84); spec_l1Rd_off.c n r85 r86 0 t87 (fun r88 r89 r90 => K r4 r5 r88))) ∧ (grd (decide (0 ≤ r84) && decide (r84 < (([200, 4096] : List (Int)).length : Int))) (let t91 : Int := rd ([200, 4096] : List (Int)) (Int.toNat r84); (spec_l1Rd_off.c n r85 r86 0 t91 (fun r92 r93 r94 => K r4 r5 r92)) ∧ (spec_l1Rd_off.c n r85 r86 0 t91 (fun r95 r96 r97 => K r4 r5 r95))))))))
def spec_DrawTurnBits.c : Nat → List Int → (Int → List Int → Int → Prop) → Prop
  | 0, _, _ => False
  | n + 1, a1, K => spec_DrawTurnBits.w n  a1 K
theorem spec_DrawTurnBits_ok (X0 : CallF) (hX : CallF.Mono X0) : ∀ (n : Nat) (a1 : List Int) (K : RES → Prop), spec_DrawTurnBits.c n a1 (fun r0 r1 r2 => K ⟨.tup [.agg [.int .i64 r0, .row ⟨52, .int .u64, r1, 99, none⟩], .c (.int .i64 r2)], []⟩) → callM C X0 n 25 [.c (.dat 5 (.int .u8) a1)] K := by
  intro n
  cases n with
  | zero => intros; exact absurd ‹_› id
  | succ n =>
    intro a1 K h
    exact call_of (fn := Try.f25) (c := bodyOf Try.f25) hX (by kernel_rfl) (by kernel_rfl) (call := D39 n) (lp := fun _ _ _ => False) (D39_ok X0 hX n) (fun _ _ _ h => h.elim) (by kernel_rfl) h
def D40 (n : Nat) : CallF := fun f a K => match f, a with
  | 25, [.c (.dat 5 (.int .u8) a1)] => spec_DrawTurnBits.c n a1 (fun r0 r1 r2 => K ⟨.tup [.agg [.int .i64 r0, .row ⟨52, .int .u64, r1, 99, none⟩], .c (.int .i64 r2)], []⟩)
  | f, a => D39 n f a K
theorem D40_ok (X0 : CallF) (hX : CallF.Mono X0) (n : Nat) : ∀ f a K, D40 n f a K → callM C X0 n f a K := by
  intro f a K h
  unfold D40 at h
  split at h
  · exact spec_DrawTurnBits_ok X0 hX n _ K h
  · exact D39_ok X0 hX n _ _ _ h
def spec_TurnBits.l6.b (n : Nat) (x11 : Int) (x13 : List Int) (x15 : List Int) (x16 : Int) (again6 : Int → List Int → Prop) (x12 : Int) (x14 : List Int) (Kx0w6 : List Int → List Int → Int → Prop) : Prop :=
  if (decide (x12 < (x13.length : Int))) = true then (grd (!(decide ((x13.length : Int) = 0))) (let t19 : Int := Int.tmod (IntKind.wrap .i64 (x12 + x11)) (x13.length : Int); grd (decide (0 ≤ x12) && decide (x12 < (x13.length : Int))) (grd (decide (0 ≤ t19) && decide (t19 < (x14.length : Int))) (let t20 : List Int := List.set x14 (Int.toNat t19) (rd x13 (Int.toNat x12)); again6 (IntKind.wrap .i64 (x12 + 1)) t20)))) else (Kx0w6 x14 x15 x16)
def spec_TurnBits.l6 : Nat → Int → List Int → List Int → Int → Int → List Int → (List Int → List Int → Int → Prop) → Prop
  | 0, _, _, _, _, _, _, _ => False
  | n + 1, x11, x13, x15, x16, x12, x14, Kx0w6 => spec_TurnBits.l6.b n  x11 x13 x15 x16 (fun x12q x14q => spec_TurnBits.l6 n x11 x13 x15 x16 x12q x14q Kx0w6) x12 x14 Kx0w6
def spec_TurnBits.j0 (K : Int → List Int → Bool → Prop) (a1 : Int) (a2 : List Int) (a3 : Int) (lp6 : Int → List Int → List Int → Int → Int → List Int → (List Int → List Int → Int → Prop) → Prop) (n : Nat) : Prop :=
  spec_l1List.c n a1 a2 (fun r9 => grd ((decide (0 ≤ (r9.length : Int)) && decide ((r9.length : Int) ≤ 35184372088832)) && decide ((r9.length : Int) = (r9.length : Int))) (let t10 : List Int := List.replicate (Int.toNat (r9.length : Int)) 0; lp6 a3 r9 ([] : List (Int)) 0 0 t10 (fun y24 y25 y26 => spec_l1From.c n y24 (fun r27 r28 r29 => K r27 r28 r29))))
def spec_TurnBits.w (n : Nat) (lp6 : Int → List Int → List Int → Int → Int → List Int → (List Int → List Int → Int → Prop) → Prop) (a1 : Int) (a2 : List Int) (a3 : Int) (K : Int → List Int → Bool → Prop) : Prop :=
  spec_BitsOk.c n a1 a2 (fun r33 => if (!r33) = false then (spec_l1In.c n a3 0 4096 (fun r34 => if (!r34) = true then (K 0 ([] : List (Int)) false) else (spec_TurnBits.j0 K a1 a2 a3 lp6 n))) else (K 0 ([] : List (Int)) false))
def spec_TurnBits.c : Nat → Int → List Int → Int → (Int → List Int → Bool → Prop) → Prop
  | 0, _, _, _, _ => False
  | n + 1, a1, a2, a3, K => spec_TurnBits.w n (spec_TurnBits.l6 n) a1 a2 a3 K
theorem spec_TurnBits.l6_ok (X0 : CallF) (hX : CallF.Mono X0) : ∀ (n : Nat) (x11 : Int) (x12 : Int) (x13 : List Int) (x14 : List Int) (x15 : List Int) (x16 : Int) (K : X → St → Prop), spec_TurnBits.l6 n x11 x13 x15 x16 x12 x14 (fun y0 y1 y2 => K (.exit 0) ⟨[(4, .c (.pbox 4 0)), (7, .c (.own 704))], [(704, ⟨5, .int .u8, y0, 99, none⟩), (1000129, ⟨52, .int .u64, y1, 99, none⟩)], [(4, ⟨26, [.int .i64 y2, .own 1000129], false⟩)], [], []⟩) → loopM C X0 n 26 6 ⟨[(1, .c (.int .i64 x11)), (4, .c (.pbox 4 0)), (6, .c (.own 608)), (7, .c (.own 704)), (8, .c (.int .i64 x12))], [(608, ⟨5, .int .u8, x13, 99, none⟩), (704, ⟨5, .int .u8, x14, 99, none⟩), (1000129, ⟨52, .int .u64, x15, 99, none⟩)], [(4, ⟨26, [.int .i64 x16, .own 1000129], false⟩)], [], []⟩ K := by
  intro n
  induction n with
  | zero => intros; exact absurd ‹_› id
  | succ n ih =>
    intro x11 x12 x13 x14 x15 x16 K h
    refine loop_of (fn := Try.f26) (c := bodyOf Try.f26) (a := loopOf Try.f26 6) (li := liOf (C.fi 26).loops 6) hX (by kernel_rfl) (by kernel_rfl) (by kernel_rfl) (by kernel_rfl) (call := D40 n) (lp := fun _ _ _ => False) (again := fun st => match st with | ⟨[(1, .c (.int .i64 x11)), (4, .c (.pbox 4 0)), (6, .c (.own 608)), (7, .c (.own 704)), (8, .c (.int .i64 x12))], [(608, ⟨5, .int .u8, x13, 99, none⟩), (704, ⟨5, .int .u8, x14, 99, none⟩), (1000129, ⟨52, .int .u64, x15, 99, none⟩)], [(4, ⟨26, [.int .i64 x16, .own 1000129], false⟩)], [], []⟩ => spec_TurnBits.l6 n x11 x13 x15 x16 x12 x14 (fun y0 y1 y2 => K (.exit 0) ⟨[(4, .c (.pbox 4 0)), (7, .c (.own 704))], [(704, ⟨5, .int .u8, y0, 99, none⟩), (1000129, ⟨52, .int .u64, y1, 99, none⟩)], [(4, ⟨26, [.int .i64 y2, .own 1000129], false⟩)], [], []⟩) | _ => False) (D40_ok X0 hX n) (fun _ _ _ h => h.elim) ?_ (by kernel_rfl) h
    intro s hs

    split at hs
    · exact ih _ _ _ _ _ _ K hs
    · exact hs.elim
theorem spec_TurnBits_ok (X0 : CallF) (hX : CallF.Mono X0) : ∀ (n : Nat) (a1 : Int) (a2 : List Int) (a3 : Int) (K : RES → Prop), spec_TurnBits.c n a1 a2 a3 (fun r0 r1 r2 => K ⟨.tup [.agg [.int .i64 r0, .row ⟨52, .int .u64, r1, 99, none⟩], .c (.bool r2)], []⟩) → callM C X0 n 26 [.agg [.int .i64 a1, .dat 52 (.int .u64) a2], .c (.int .i64 a3)] K := by
  intro n
  cases n with
  | zero => intros; exact absurd ‹_› id
  | succ n =>
    intro a1 a2 a3 K h
    exact call_of (fn := Try.f26) (c := bodyOf Try.f26) hX (by kernel_rfl) (by kernel_rfl) (call := D40 n) (lp := fun k st K => match k, st with | 6, ⟨[(1, .c (.int .i64 x11)), (4, .c (.pbox 4 0)), (6, .c (.own 608)), (7, .c (.own 704)), (8, .c (.int .i64 x12))], [(608, ⟨5, .int .u8, x13, 99, none⟩), (704, ⟨5, .int .u8, x14, 99, none⟩), (1000129, ⟨52, .int .u64, x15, 99, none⟩)], [(4, ⟨26, [.int .i64 x16, .own 1000129], false⟩)], [], []⟩ => spec_TurnBits.l6 n x11 x13 x15 x16 x12 x14 (fun y0 y1 y2 => K (.exit 0) ⟨[(4, .c (.pbox 4 0)), (7, .c (.own 704))], [(704, ⟨5, .int .u8, y0, 99, none⟩), (1000129, ⟨52, .int .u64, y1, 99, none⟩)], [(4, ⟨26, [.int .i64 y2, .own 1000129], false⟩)], [], []⟩) | _, _ => False) (D40_ok X0 hX n) (by intro k st K h; split at h <;> first | exact h.elim | exact spec_TurnBits.l6_ok X0 hX n _ _ _ _ _ _ K h) (by kernel_rfl) h
def D41 (n : Nat) : CallF := fun f a K => match f, a with
  | 26, [.agg [.int .i64 a1, .dat 52 (.int .u64) a2], .c (.int .i64 a3)] => spec_TurnBits.c n a1 a2 a3 (fun r0 r1 r2 => K ⟨.tup [.agg [.int .i64 r0, .row ⟨52, .int .u64, r1, 99, none⟩], .c (.bool r2)], []⟩)
  | f, a => D40 n f a K
theorem D41_ok (X0 : CallF) (hX : CallF.Mono X0) (n : Nat) : ∀ f a K, D41 n f a K → callM C X0 n f a K := by
  intro f a K h
  unfold D41 at h
  split at h
  · exact spec_TurnBits_ok X0 hX n _ _ _ K h
  · exact D40_ok X0 hX n _ _ _ h
def impl_Bits_turn.w (n : Nat) (a1 : Int) (a2 : List Int) (a3 : Int) (K : Int → List Int → Prop) : Prop :=
  grd (!(decide (a1 = 0))) (if (decide (Int.tmod a3 a1 = 0)) = true then (impl_cloneBits.c n a1 a2 (fun r6 r7 => K r6 r7)) else ((impl_Bits_cut.c n a1 a2 0 (IntKind.wrap .i64 (a1 - (Int.tmod a3 a1))) (fun r40 r41 => impl_Bits_cut.c n a1 a2 (IntKind.wrap .i64 (a1 - (Int.tmod a3 a1))) (Int.tmod a3 a1) (fun r42 r43 => impl_Bits_over.c n r40 r41 r42 r43 (fun r44 r45 => K r44 r45)))) ∧ ((impl_Bits_cut.c n a1 a2 0 (IntKind.wrap .i64 (a1 - (Int.tmod a3 a1))) (fun r46 r47 => impl_Bits_cut.c n a1 a2 (IntKind.wrap .i64 (a1 - (Int.tmod a3 a1))) (Int.tmod a3 a1) (fun r48 r49 => impl_Bits_over.c n r46 r47 r48 r49 (fun r50 r51 => K r50 r51)))) ∧ (impl_Bits_cut.c n a1 a2 0 (IntKind.wrap .i64 (a1 - (Int.tmod a3 a1))) (fun r52 r53 => impl_Bits_cut.c n a1 a2 (IntKind.wrap .i64 (a1 - (Int.tmod a3 a1))) (Int.tmod a3 a1) (fun r54 r55 => impl_Bits_over.c n r52 r53 r54 r55 (fun r56 r57 => K r56 r57))))) ∧ ((impl_Bits_cut.c n a1 a2 0 (IntKind.wrap .i64 (a1 - (Int.tmod a3 a1))) (fun r58 r59 => impl_Bits_cut.c n a1 a2 (IntKind.wrap .i64 (a1 - (Int.tmod a3 a1))) (Int.tmod a3 a1) (fun r60 r61 => impl_Bits_over.c n r58 r59 r60 r61 (fun r62 r63 => K r62 r63)))) ∧ (impl_Bits_cut.c n a1 a2 0 (IntKind.wrap .i64 (a1 - (Int.tmod a3 a1))) (fun r64 r65 => impl_Bits_cut.c n a1 a2 (IntKind.wrap .i64 (a1 - (Int.tmod a3 a1))) (Int.tmod a3 a1) (fun r66 r67 => impl_Bits_over.c n r64 r65 r66 r67 (fun r68 r69 => K r68 r69)))))))
def impl_Bits_turn.c : Nat → Int → List Int → Int → (Int → List Int → Prop) → Prop
  | 0, _, _, _, _ => False
  | n + 1, a1, a2, a3, K => impl_Bits_turn.w n  a1 a2 a3 K
theorem impl_Bits_turn_ok (X0 : CallF) (hX : CallF.Mono X0) : ∀ (n : Nat) (a1 : Int) (a2 : List Int) (a3 : Int) (K : RES → Prop), impl_Bits_turn.c n a1 a2 a3 (fun r0 r1 => K ⟨.agg [.int .i64 r0, .row ⟨52, .int .u64, r1, 99, none⟩], []⟩) → callM C X0 n 53 [.agg [.int .i64 a1, .dat 52 (.int .u64) a2], .c (.int .i64 a3)] K := by
  intro n
  cases n with
  | zero => intros; exact absurd ‹_› id
  | succ n =>
    intro a1 a2 a3 K h
    exact call_of (fn := Try.f53) (c := bodyOf Try.f53) hX (by kernel_rfl) (by kernel_rfl) (call := D41 n) (lp := fun _ _ _ => False) (D41_ok X0 hX n) (fun _ _ _ h => h.elim) (by kernel_rfl) h
def D42 (n : Nat) : CallF := fun f a K => match f, a with
  | 53, [.agg [.int .i64 a1, .dat 52 (.int .u64) a2], .c (.int .i64 a3)] => impl_Bits_turn.c n a1 a2 a3 (fun r0 r1 => K ⟨.agg [.int .i64 r0, .row ⟨52, .int .u64, r1, 99, none⟩], []⟩)
  | f, a => D41 n f a K
theorem D42_ok (X0 : CallF) (hX : CallF.Mono X0) (n : Nat) : ∀ f a K, D42 n f a K → callM C X0 n f a K := by
  intro f a K h
  unfold D42 at h
  split at h
  · exact impl_Bits_turn_ok X0 hX n _ _ _ K h
  · exact D41_ok X0 hX n _ _ _ h

end Go.Vsi
end

section
set_option linter.unusedVariables false
namespace Go.Vsi
open Go.Proofs

def impl_TurnBits.w (n : Nat) (a1 : Int) (a2 : List Int) (a3 : Int) (K : Int → List Int → Bool → Prop) : Prop :=
  impl_BitsOk.c n a1 a2 (fun r16 => if (!r16) = false then (impl_inside.c n a3 0 4096 (fun r17 => if (!r17) = true then (K 0 ([] : List (Int)) false) else (impl_Bits_turn.c n a1 a2 a3 (fun r18 r19 => K r18 r19 true)))) else (K 0 ([] : List (Int)) false))
def impl_TurnBits.c : Nat → Int → List Int → Int → (Int → List Int → Bool → Prop) → Prop
  | 0, _, _, _, _ => False
  | n + 1, a1, a2, a3, K => impl_TurnBits.w n  a1 a2 a3 K
theorem impl_TurnBits_ok (X0 : CallF) (hX : CallF.Mono X0) : ∀ (n : Nat) (a1 : Int) (a2 : List Int) (a3 : Int) (K : RES → Prop), impl_TurnBits.c n a1 a2 a3 (fun r0 r1 r2 => K ⟨.tup [.agg [.int .i64 r0, .row ⟨52, .int .u64, r1, 99, none⟩], .c (.bool r2)], []⟩) → callM C X0 n 27 [.agg [.int .i64 a1, .dat 52 (.int .u64) a2], .c (.int .i64 a3)] K := by
  intro n
  cases n with
  | zero => intros; exact absurd ‹_› id
  | succ n =>
    intro a1 a2 a3 K h
    exact call_of (fn := Try.f27) (c := bodyOf Try.f27) hX (by kernel_rfl) (by kernel_rfl) (call := D42 n) (lp := fun _ _ _ => False) (D42_ok X0 hX n) (fun _ _ _ h => h.elim) (by kernel_rfl) h
def D43 (n : Nat) : CallF := fun f a K => match f, a with
  | 27, [.agg [.int .i64 a1, .dat 52 (.int .u64) a2], .c (.int .i64 a3)] => impl_TurnBits.c n a1 a2 a3 (fun r0 r1 r2 => K ⟨.tup [.agg [.int .i64 r0, .row ⟨52, .int .u64, r1, 99, none⟩], .c (.bool r2)], []⟩)
  | f, a => D42 n f a K
theorem D43_ok (X0 : CallF) (hX : CallF.Mono X0) (n : Nat) : ∀ f a K, D43 n f a K → callM C X0 n f a K := by
  intro f a K h
  unfold D43 at h
  split at h
  · exact impl_TurnBits_ok X0 hX n _ _ _ K h
  · exact D42_ok X0 hX n _ _ _ h
def impl_Bits_repeat.l3.b (n : Nat) (x6 : Int) (x9 : List Int) (x10 : Int) (x11 : List Int) (x12 : Int) (x13 : Int) (again3 : Int → List Int → Prop) (x7 : Int) (x8 : List Int) (Kx0w3 : List Int → List Int → Int → Int → Prop) : Prop :=
  if (decide (x7 < x6)) = true then (impl_Bits_put.c n x13 x8 (IntKind.wrap .i64 (x7 * x10)) x10 x11 (fun r16 r17 => again3 (IntKind.wrap .i64 (x7 + 1)) r17)) else (Kx0w3 x8 x9 x12 x13)
def impl_Bits_repeat.l3 : Nat → Int → List Int → Int → List Int → Int → Int → Int → List Int → (List Int → List Int → Int → Int → Prop) → Prop
  | 0, _, _, _, _, _, _, _, _, _ => False
  | n + 1, x6, x9, x10, x11, x12, x13, x7, x8, Kx0w3 => impl_Bits_repeat.l3.b n  x6 x9 x10 x11 x12 x13 (fun x7q x8q => impl_Bits_repeat.l3 n x6 x9 x10 x11 x12 x13 x7q x8q Kx0w3) x7 x8 Kx0w3
def impl_Bits_repeat.w (n : Nat) (lp3 : Int → List Int → Int → List Int → Int → Int → Int → List Int → (List Int → List Int → Int → Int → Prop) → Prop) (a1 : Int) (a2 : List Int) (a3 : Int) (K : Int → List Int → Prop) : Prop :=
  impl_zeroBits.c n (IntKind.wrap .i64 (a3 * a1)) (fun r4 r5 => lp3 a3 ([] : List (Int)) a1 a2 0 r4 0 r5 (fun y22 y23 y24 y25 => K y25 y22))
def impl_Bits_repeat.c : Nat → Int → List Int → Int → (Int → List Int → Prop) → Prop
  | 0, _, _, _, _ => False
  | n + 1, a1, a2, a3, K => impl_Bits_repeat.w n (impl_Bits_repeat.l3 n) a1 a2 a3 K
theorem impl_Bits_repeat.l3_ok (X0 : CallF) (hX : CallF.Mono X0) : ∀ (n : Nat) (x6 : Int) (x7 : Int) (x8 : List Int) (x9 : List Int) (x10 : Int) (x11 : List Int) (x12 : Int) (x13 : Int) (K : X → St → Prop), impl_Bits_repeat.l3 n x6 x9 x10 x11 x12 x13 x7 x8 (fun y0 y1 y2 y3 => K (.exit 0) ⟨[(4, .c (.pbox 4 0)), (5, .c (.pbox 5 0))], [(353, ⟨52, .int .u64, y0, 99, none⟩), (1000129, ⟨52, .int .u64, y1, 99, none⟩)], [(4, ⟨26, [.int .i64 y2, .own 1000129], false⟩), (5, ⟨26, [.int .i64 y3, .own 353], false⟩)], [], []⟩) → loopM C X0 n 54 3 ⟨[(2, .c (.pbox 2 0)), (4, .c (.pbox 4 0)), (5, .c (.pbox 5 0)), (12, .c (.int .i64 x6)), (13, .c (.int .i64 x7))], [(353, ⟨52, .int .u64, x8, 99, none⟩), (1000129, ⟨52, .int .u64, x9, 99, none⟩)], [(2, ⟨26, [.int .i64 x10, .dat 52 (.int .u64) x11], false⟩), (4, ⟨26, [.int .i64 x12, .own 1000129], false⟩), (5, ⟨26, [.int .i64 x13, .own 353], false⟩)], [], []⟩ K := by
  intro n
  induction n with
  | zero => intros; exact absurd ‹_› id
  | succ n ih =>
    intro x6 x7 x8 x9 x10 x11 x12 x13 K h
    refine loop_of (fn := Try.f54) (c := bodyOf Try.f54) (a := loopOf Try.f54 3) (li := liOf (C.fi 54).loops 3) hX (by kernel_rfl) (by kernel_rfl) (by kernel_rfl) (by kernel_rfl) (call := D43 n) (lp := fun _ _ _ => False) (again := fun st => match st with | ⟨[(2, .c (.pbox 2 0)), (4, .c (.pbox 4 0)), (5, .c (.pbox 5 0)), (12, .c (.int .i64 x6)), (13, .c (.int .i64 x7))], [(353, ⟨52, .int .u64, x8, 99, none⟩), (1000129, ⟨52, .int .u64, x9, 99, none⟩)], [(2, ⟨26, [.int .i64 x10, .dat 52 (.int .u64) x11], false⟩), (4, ⟨26, [.int .i64 x12, .own 1000129], false⟩), (5, ⟨26, [.int .i64 x13, .own 353], false⟩)], [], []⟩ => impl_Bits_repeat.l3 n x6 x9 x10 x11 x12 x13 x7 x8 (fun y0 y1 y2 y3 => K (.exit 0) ⟨[(4, .c (.pbox 4 0)), (5, .c (.pbox 5 0))], [(353, ⟨52, .int .u64, y0, 99, none⟩), (1000129, ⟨52, .int .u64, y1, 99, none⟩)], [(4, ⟨26, [.int .i64 y2, .own 1000129], false⟩), (5, ⟨26, [.int .i64 y3, .own 353], false⟩)], [], []⟩) | _ => False) (D43_ok X0 hX n) (fun _ _ _ h => h.elim) ?_ (by kernel_rfl) h
    intro s hs

    split at hs
    · exact ih _ _ _ _ _ _ _ _ K hs
    · exact hs.elim
theorem impl_Bits_repeat_ok (X0 : CallF) (hX : CallF.Mono X0) : ∀ (n : Nat) (a1 : Int) (a2 : List Int) (a3 : Int) (K : RES → Prop), impl_Bits_repeat.c n a1 a2 a3 (fun r0 r1 => K ⟨.agg [.int .i64 r0, .row ⟨52, .int .u64, r1, 99, none⟩], []⟩) → callM C X0 n 54 [.agg [.int .i64 a1, .dat 52 (.int .u64) a2], .c (.int .i64 a3)] K := by
  intro n
  cases n with
  | zero => intros; exact absurd ‹_› id
  | succ n =>
    intro a1 a2 a3 K h
    exact call_of (fn := Try.f54) (c := bodyOf Try.f54) hX (by kernel_rfl) (by kernel_rfl) (call := D43 n) (lp := fun k st K => match k, st with | 3, ⟨[(2, .c (.pbox 2 0)), (4, .c (.pbox 4 0)), (5, .c (.pbox 5 0)), (12, .c (.int .i64 x6)), (13, .c (.int .i64 x7))], [(353, ⟨52, .int .u64, x8, 99, none⟩), (1000129, ⟨52, .int .u64, x9, 99, none⟩)], [(2, ⟨26, [.int .i64 x10, .dat 52 (.int .u64) x11], false⟩), (4, ⟨26, [.int .i64 x12, .own 1000129], false⟩), (5, ⟨26, [.int .i64 x13, .own 353], false⟩)], [], []⟩ => impl_Bits_repeat.l3 n x6 x9 x10 x11 x12 x13 x7 x8 (fun y0 y1 y2 y3 => K (.exit 0) ⟨[(4, .c (.pbox 4 0)), (5, .c (.pbox 5 0))], [(353, ⟨52, .int .u64, y0, 99, none⟩), (1000129, ⟨52, .int .u64, y1, 99, none⟩)], [(4, ⟨26, [.int .i64 y2, .own 1000129], false⟩), (5, ⟨26, [.int .i64 y3, .own 353], false⟩)], [], []⟩) | _, _ => False) (D43_ok X0 hX n) (by intro k st K h; split at h <;> first | exact h.elim | exact impl_Bits_repeat.l3_ok X0 hX n _ _ _ _ _ _ _ _ K h) (by kernel_rfl) h
def D44 (n : Nat) : CallF := fun f a K => match f, a with
  | 54, [.agg [.int .i64 a1, .dat 52 (.int .u64) a2], .c (.int .i64 a3)] => impl_Bits_repeat.c n a1 a2 a3 (fun r0 r1 => K ⟨.agg [.int .i64 r0, .row ⟨52, .int .u64, r1, 99, none⟩], []⟩)
  | f, a => D43 n f a K
theorem D44_ok (X0 : CallF) (hX : CallF.Mono X0) (n : Nat) : ∀ f a K, D44 n f a K → callM C X0 n f a K := by
  intro f a K h
  unfold D44 at h
  split at h
  · exact impl_Bits_repeat_ok X0 hX n _ _ _ K h
  · exact D43_ok X0 hX n _ _ _ h
def impl_RepeatBits.w (n : Nat) (a1 : Int) (a2 : List Int) (a3 : Int) (K : Int → List Int → Bool → Prop) : Prop :=
  impl_BitsOk.c n a1 a2 (fun r16 => if (!r16) = false then (impl_inside.c n a3 1 4096 (fun r17 => if (!r17) = false then (if (decide (IntKind.wrap .i64 (a3 * a1) > 4096)) = true then (K 0 ([] : List (Int)) false) else (impl_Bits_repeat.c n a1 a2 a3 (fun r18 r19 => K r18 r19 true))) else (K 0 ([] : List (Int)) false))) else (K 0 ([] : List (Int)) false))
def impl_RepeatBits.c : Nat → Int → List Int → Int → (Int → List Int → Bool → Prop) → Prop
  | 0, _, _, _, _ => False
  | n + 1, a1, a2, a3, K => impl_RepeatBits.w n  a1 a2 a3 K
theorem impl_RepeatBits_ok (X0 : CallF) (hX : CallF.Mono X0) : ∀ (n : Nat) (a1 : Int) (a2 : List Int) (a3 : Int) (K : RES → Prop), impl_RepeatBits.c n a1 a2 a3 (fun r0 r1 r2 => K ⟨.tup [.agg [.int .i64 r0, .row ⟨52, .int .u64, r1, 99, none⟩], .c (.bool r2)], []⟩) → callM C X0 n 28 [.agg [.int .i64 a1, .dat 52 (.int .u64) a2], .c (.int .i64 a3)] K := by
  intro n
  cases n with
  | zero => intros; exact absurd ‹_› id
  | succ n =>
    intro a1 a2 a3 K h
    exact call_of (fn := Try.f28) (c := bodyOf Try.f28) hX (by kernel_rfl) (by kernel_rfl) (call := D44 n) (lp := fun _ _ _ => False) (D44_ok X0 hX n) (fun _ _ _ h => h.elim) (by kernel_rfl) h
def D45 (n : Nat) : CallF := fun f a K => match f, a with
  | 28, [.agg [.int .i64 a1, .dat 52 (.int .u64) a2], .c (.int .i64 a3)] => impl_RepeatBits.c n a1 a2 a3 (fun r0 r1 r2 => K ⟨.tup [.agg [.int .i64 r0, .row ⟨52, .int .u64, r1, 99, none⟩], .c (.bool r2)], []⟩)
  | f, a => D44 n f a K
theorem D45_ok (X0 : CallF) (hX : CallF.Mono X0) (n : Nat) : ∀ f a K, D45 n f a K → callM C X0 n f a K := by
  intro f a K h
  unfold D45 at h
  split at h
  · exact impl_RepeatBits_ok X0 hX n _ _ _ K h
  · exact D44_ok X0 hX n _ _ _ h
def impl_Bits_bit.w (n : Nat) (a1 : Int) (a2 : List Int) (a3 : Int) (K : Int → Prop) : Prop :=
  grd (decide (0 ≤ IntKind.wrap .i64 (Int.tdiv a3 64)) && decide (IntKind.wrap .i64 (Int.tdiv a3 64) < (a2.length : Int))) (let t4 : Int := rd a2 (Int.toNat (IntKind.wrap .i64 (Int.tdiv a3 64))); grd (decide (0 ≤ Int.tmod a3 64)) (let t5 : Int := Int.fdiv t4 (2 ^ (Nat.min (Int.toNat (Int.tmod a3 64)) 64)); K (ibits .and .u64 t5 1)))
def impl_Bits_bit.c : Nat → Int → List Int → Int → (Int → Prop) → Prop
  | 0, _, _, _, _ => False
  | n + 1, a1, a2, a3, K => impl_Bits_bit.w n  a1 a2 a3 K
theorem impl_Bits_bit_ok (X0 : CallF) (hX : CallF.Mono X0) : ∀ (n : Nat) (a1 : Int) (a2 : List Int) (a3 : Int) (K : RES → Prop), impl_Bits_bit.c n a1 a2 a3 (fun r0 => K ⟨.c (.int .u64 r0), []⟩) → callM C X0 n 63 [.agg [.int .i64 a1, .dat 52 (.int .u64) a2], .c (.int .i64 a3)] K := by
  intro n
  cases n with
  | zero => intros; exact absurd ‹_› id
  | succ n =>
    intro a1 a2 a3 K h
    exact call_of (fn := Try.f63) (c := bodyOf Try.f63) hX (by kernel_rfl) (by kernel_rfl) (call := D45 n) (lp := fun _ _ _ => False) (D45_ok X0 hX n) (fun _ _ _ h => h.elim) (by kernel_rfl) h
def D46 (n : Nat) : CallF := fun f a K => match f, a with
  | 63, [.agg [.int .i64 a1, .dat 52 (.int .u64) a2], .c (.int .i64 a3)] => impl_Bits_bit.c n a1 a2 a3 (fun r0 => K ⟨.c (.int .u64 r0), []⟩)
  | f, a => D45 n f a K
theorem D46_ok (X0 : CallF) (hX : CallF.Mono X0) (n : Nat) : ∀ f a K, D46 n f a K → callM C X0 n f a K := by
  intro f a K h
  unfold D46 at h
  split at h
  · exact impl_Bits_bit_ok X0 hX n _ _ _ K h
  · exact D45_ok X0 hX n _ _ _ h
def impl_Bits_set.w (n : Nat) (a1 : Int) (a2 : List Int) (a3 : Int) (K : Int → List Int → Prop) : Prop :=
  grd (decide (0 ≤ IntKind.wrap .i64 (Int.tdiv a3 64)) && decide (IntKind.wrap .i64 (Int.tdiv a3 64) < (a2.length : Int))) (let t4 : Nat := Int.toNat (IntKind.wrap .i64 (Int.tdiv a3 64)); grd (decide (0 ≤ Int.tmod a3 64)) (let t5 : Int := IntKind.wrap .u64 (1 * 2 ^ (Nat.min (Int.toNat (Int.tmod a3 64)) 64)); grd (decide (0 ≤ IntKind.wrap .i64 (Int.tdiv a3 64)) && decide (IntKind.wrap .i64 (Int.tdiv a3 64) < (a2.length : Int))) (let t6 : Nat := Int.toNat (IntKind.wrap .i64 (Int.tdiv a3 64)); let t7 : List Int := List.set a2 t6 (ibits .or .u64 (rd a2 t4) t5); K a1 t7)))
def impl_Bits_set.c : Nat → Int → List Int → Int → (Int → List Int → Prop) → Prop
  | 0, _, _, _, _ => False
  | n + 1, a1, a2, a3, K => impl_Bits_set.w n  a1 a2 a3 K
theorem impl_Bits_set_ok (X0 : CallF) (hX : CallF.Mono X0) : ∀ (n : Nat) (a1 : Int) (a2 : List Int) (a3 : Int) (K : RES → Prop), impl_Bits_set.c n a1 a2 a3 (fun r0 r1 => K ⟨.tup [], [[.int .i64 r0, .row ⟨52, .int .u64, r1, 99, none⟩]]⟩) → callM C X0 n 64 [.agg [.int .i64 a1, .row ⟨52, .int .u64, a2, 99, none⟩], .c (.int .i64 a3)] K := by
  intro n
  cases n with
  | zero => intros; exact absurd ‹_› id
  | succ n =>
    intro a1 a2 a3 K h
    exact call_of (fn := Try.f64) (c := bodyOf Try.f64) hX (by kernel_rfl) (by kernel_rfl) (call := D46 n) (lp := fun _ _ _ => False) (D46_ok X0 hX n) (fun _ _ _ h => h.elim) (by kernel_rfl) h
def D47 (n : Nat) : CallF := fun f a K => match f, a with
  | 64, [.agg [.int .i64 a1, .row ⟨52, .int .u64, a2, 99, none⟩], .c (.int .i64 a3)] => impl_Bits_set.c n a1 a2 a3 (fun r0 r1 => K ⟨.tup [], [[.int .i64 r0, .row ⟨52, .int .u64, r1, 99, none⟩]]⟩)
  | f, a => D46 n f a K
theorem D47_ok (X0 : CallF) (hX : CallF.Mono X0) (n : Nat) : ∀ f a K, D47 n f a K → callM C X0 n f a K := by
  intro f a K h
  unfold D47 at h
  split at h
  · exact impl_Bits_set_ok X0 hX n _ _ _ K h
  · exact D46_ok X0 hX n _ _ _ h
def impl_Bits_widen.l5.b (n : Nat) (x11 : Int) (x14 : List Int) (x15 : Int) (x16 : List Int) (x17 : Int) (x18 : Int) (again5 : Int → List Int → Prop) (x12 : Int) (x13 : List Int) (Kx0w5 : List Int → List Int → Int → Int → Prop) : Prop :=
  if (decide (x12 < x11)) = true then (impl_Bits_set.c n x18 x13 (IntKind.wrap .i64 (x15 + x12)) (fun r21 r22 => again5 (IntKind.wrap .i64 (x12 + 1)) r22)) else (Kx0w5 x13 x14 x17 x18)
def impl_Bits_widen.l5 : Nat → Int → List Int → Int → List Int → Int → Int → Int → List Int → (List Int → List Int → Int → Int → Prop) → Prop
  | 0, _, _, _, _, _, _, _, _, _ => False
  | n + 1, x11, x14, x15, x16, x17, x18, x12, x13, Kx0w5 => impl_Bits_widen.l5.b n  x11 x14 x15 x16 x17 x18 (fun x12q x13q => impl_Bits_widen.l5 n x11 x14 x15 x16 x17 x18 x12q x13q Kx0w5) x12 x13 Kx0w5
def impl_Bits_widen.w (n : Nat) (lp5 : Int → List Int → Int → List Int → Int → Int → Int → List Int → (List Int → List Int → Int → Int → Prop) → Prop) (a1 : Int) (a2 : List Int) (a3 : Int) (a4 : Bool) (K : Int → List Int → Prop) : Prop :=
  impl_zeroBits.c n (IntKind.wrap .i64 (a1 + a3)) (fun r5 r6 => impl_Bits_put.c n r5 r6 0 a1 a2 (fun r7 r8 => if a4 = true then (impl_Bits_bit.c n a1 a2 (IntKind.wrap .i64 (a1 - 1)) (fun r42 => if (decide (r42 = 1)) = true then (lp5 a3 ([] : List (Int)) a1 a2 0 r5 0 r8 (fun y43 y44 y45 y46 => K y46 y43)) else (K r5 r8))) else (K r5 r8)))
def impl_Bits_widen.c : Nat → Int → List Int → Int → Bool → (Int → List Int → Prop) → Prop
  | 0, _, _, _, _, _ => False
  | n + 1, a1, a2, a3, a4, K => impl_Bits_widen.w n (impl_Bits_widen.l5 n) a1 a2 a3 a4 K
theorem impl_Bits_widen.l5_ok (X0 : CallF) (hX : CallF.Mono X0) : ∀ (n : Nat) (x11 : Int) (x12 : Int) (x13 : List Int) (x14 : List Int) (x15 : Int) (x16 : List Int) (x17 : Int) (x18 : Int) (K : X → St → Prop), impl_Bits_widen.l5 n x11 x14 x15 x16 x17 x18 x12 x13 (fun y0 y1 y2 y3 => K (.exit 0) ⟨[(6, .c (.pbox 6 0)), (7, .c (.pbox 7 0))], [(417, ⟨52, .int .u64, y0, 99, none⟩), (1000193, ⟨52, .int .u64, y1, 99, none⟩)], [(6, ⟨26, [.int .i64 y2, .own 1000193], false⟩), (7, ⟨26, [.int .i64 y3, .own 417], false⟩)], [], []⟩) → loopM C X0 n 55 5 ⟨[(3, .c (.pbox 3 0)), (6, .c (.pbox 6 0)), (7, .c (.pbox 7 0)), (26, .c (.int .i64 x11)), (27, .c (.int .i64 x12))], [(417, ⟨52, .int .u64, x13, 99, none⟩), (1000193, ⟨52, .int .u64, x14, 99, none⟩)], [(3, ⟨26, [.int .i64 x15, .dat 52 (.int .u64) x16], false⟩), (6, ⟨26, [.int .i64 x17, .own 1000193], false⟩), (7, ⟨26, [.int .i64 x18, .own 417], false⟩)], [], []⟩ K := by
  intro n
  induction n with
  | zero => intros; exact absurd ‹_› id
  | succ n ih =>
    intro x11 x12 x13 x14 x15 x16 x17 x18 K h
    refine loop_of (fn := Try.f55) (c := bodyOf Try.f55) (a := loopOf Try.f55 5) (li := liOf (C.fi 55).loops 5) hX (by kernel_rfl) (by kernel_rfl) (by kernel_rfl) (by kernel_rfl) (call := D47 n) (lp := fun _ _ _ => False) (again := fun st => match st with | ⟨[(3, .c (.pbox 3 0)), (6, .c (.pbox 6 0)), (7, .c (.pbox 7 0)), (26, .c (.int .i64 x11)), (27, .c (.int .i64 x12))], [(417, ⟨52, .int .u64, x13, 99, none⟩), (1000193, ⟨52, .int .u64, x14, 99, none⟩)], [(3, ⟨26, [.int .i64 x15, .dat 52 (.int .u64) x16], false⟩), (6, ⟨26, [.int .i64 x17, .own 1000193], false⟩), (7, ⟨26, [.int .i64 x18, .own 417], false⟩)], [], []⟩ => impl_Bits_widen.l5 n x11 x14 x15 x16 x17 x18 x12 x13 (fun y0 y1 y2 y3 => K (.exit 0) ⟨[(6, .c (.pbox 6 0)), (7, .c (.pbox 7 0))], [(417, ⟨52, .int .u64, y0, 99, none⟩), (1000193, ⟨52, .int .u64, y1, 99, none⟩)], [(6, ⟨26, [.int .i64 y2, .own 1000193], false⟩), (7, ⟨26, [.int .i64 y3, .own 417], false⟩)], [], []⟩) | _ => False) (D47_ok X0 hX n) (fun _ _ _ h => h.elim) ?_ (by kernel_rfl) h
    intro s hs

    split at hs
    · exact ih _ _ _ _ _ _ _ _ K hs
    · exact hs.elim
theorem impl_Bits_widen_ok (X0 : CallF) (hX : CallF.Mono X0) : ∀ (n : Nat) (a1 : Int) (a2 : List Int) (a3 : Int) (a4 : Bool) (K : RES → Prop), impl_Bits_widen.c n a1 a2 a3 a4 (fun r0 r1 => K ⟨.agg [.int .i64 r0, .row ⟨52, .int .u64, r1, 99, none⟩], []⟩) → callM C X0 n 55 [.agg [.int .i64 a1, .dat 52 (.int .u64) a2], .c (.int .i64 a3), .c (.bool a4)] K := by
  intro n
  cases n with
  | zero => intros; exact absurd ‹_› id
  | succ n =>
    intro a1 a2 a3 a4 K h
    exact call_of (fn := Try.f55) (c := bodyOf Try.f55) hX (by kernel_rfl) (by kernel_rfl) (call := D47 n) (lp := fun k st K => match k, st with | 5, ⟨[(3, .c (.pbox 3 0)), (6, .c (.pbox 6 0)), (7, .c (.pbox 7 0)), (26, .c (.int .i64 x11)), (27, .c (.int .i64 x12))], [(417, ⟨52, .int .u64, x13, 99, none⟩), (1000193, ⟨52, .int .u64, x14, 99, none⟩)], [(3, ⟨26, [.int .i64 x15, .dat 52 (.int .u64) x16], false⟩), (6, ⟨26, [.int .i64 x17, .own 1000193], false⟩), (7, ⟨26, [.int .i64 x18, .own 417], false⟩)], [], []⟩ => impl_Bits_widen.l5 n x11 x14 x15 x16 x17 x18 x12 x13 (fun y0 y1 y2 y3 => K (.exit 0) ⟨[(6, .c (.pbox 6 0)), (7, .c (.pbox 7 0))], [(417, ⟨52, .int .u64, y0, 99, none⟩), (1000193, ⟨52, .int .u64, y1, 99, none⟩)], [(6, ⟨26, [.int .i64 y2, .own 1000193], false⟩), (7, ⟨26, [.int .i64 y3, .own 417], false⟩)], [], []⟩) | _, _ => False) (D47_ok X0 hX n) (by intro k st K h; split at h <;> first | exact h.elim | exact impl_Bits_widen.l5_ok X0 hX n _ _ _ _ _ _ _ _ K h) (by kernel_rfl) h
def D48 (n : Nat) : CallF := fun f a K => match f, a with
  | 55, [.agg [.int .i64 a1, .dat 52 (.int .u64) a2], .c (.int .i64 a3), .c (.bool a4)] => impl_Bits_widen.c n a1 a2 a3 a4 (fun r0 r1 => K ⟨.agg [.int .i64 r0, .row ⟨52, .int .u64, r1, 99, none⟩], []⟩)
  | f, a => D47 n f a K
theorem D48_ok (X0 : CallF) (hX : CallF.Mono X0) (n : Nat) : ∀ f a K, D48 n f a K → callM C X0 n f a K := by
  intro f a K h
  unfold D48 at h
  split at h
  · exact impl_Bits_widen_ok X0 hX n _ _ _ _ K h
  · exact D47_ok X0 hX n _ _ _ h
def impl_WidenBits.w (n : Nat) (a1 : Int) (a2 : List Int) (a3 : Int) (a4 : Bool) (K : Int → List Int → Bool → Prop) : Prop :=
  impl_BitsOk.c n a1 a2 (fun r17 => if (!r17) = false then (impl_inside.c n a3 0 4096 (fun r18 => if (!r18) = false then (if (decide (IntKind.wrap .i64 (a1 + a3) > 4096)) = true then (K 0 ([] : List (Int)) false) else (impl_Bits_widen.c n a1 a2 a3 a4 (fun r19 r20 => K r19 r20 true))) else (K 0 ([] : List (Int)) false))) else (K 0 ([] : List (Int)) false))
def impl_WidenBits.c : Nat → Int → List Int → Int → Bool → (Int → List Int → Bool → Prop) → Prop
  | 0, _, _, _, _, _ => False
  | n + 1, a1, a2, a3, a4, K => impl_WidenBits.w n  a1 a2 a3 a4 K
theorem impl_WidenBits_ok (X0 : CallF) (hX : CallF.Mono X0) : ∀ (n : Nat) (a1 : Int) (a2 : List Int) (a3 : Int) (a4 : Bool) (K : RES → Prop), impl_WidenBits.c n a1 a2 a3 a4 (fun r0 r1 r2 => K ⟨.tup [.agg [.int .i64 r0, .row ⟨52, .int .u64, r1, 99, none⟩], .c (.bool r2)], []⟩) → callM C X0 n 29 [.agg [.int .i64 a1, .dat 52 (.int .u64) a2], .c (.int .i64 a3), .c (.bool a4)] K := by
  intro n
  cases n with
  | zero => intros; exact absurd ‹_› id
  | succ n =>
    intro a1 a2 a3 a4 K h
    exact call_of (fn := Try.f29) (c := bodyOf Try.f29) hX (by kernel_rfl) (by kernel_rfl) (call := D48 n) (lp := fun _ _ _ => False) (D48_ok X0 hX n) (fun _ _ _ h => h.elim) (by kernel_rfl) h
def D49 (n : Nat) : CallF := fun f a K => match f, a with
  | 29, [.agg [.int .i64 a1, .dat 52 (.int .u64) a2], .c (.int .i64 a3), .c (.bool a4)] => impl_WidenBits.c n a1 a2 a3 a4 (fun r0 r1 r2 => K ⟨.tup [.agg [.int .i64 r0, .row ⟨52, .int .u64, r1, 99, none⟩], .c (.bool r2)], []⟩)
  | f, a => D48 n f a K
theorem D49_ok (X0 : CallF) (hX : CallF.Mono X0) (n : Nat) : ∀ f a K, D49 n f a K → callM C X0 n f a K := by
  intro f a K h
  unfold D49 at h
  split at h
  · exact impl_WidenBits_ok X0 hX n _ _ _ _ K h
  · exact D48_ok X0 hX n _ _ _ h
def laws_FnBitsTurns.j0 (K : Bool → Prop) (n : Nat) (r4 : Int) (r5 : List Int) : Prop :=
  impl_WidenBits.c n r4 r5 1 false (fun r50 r51 r52 => if (decide (r4 = 4096)) = false then (if r52 = true then ((impl_CountOnes.c n r50 r51 (fun r58 => impl_CountOnes.c n r4 r5 (fun r59 => K (decide (r58 = r59))))) ∧ (impl_CountOnes.c n r50 r51 (fun r60 => impl_CountOnes.c n r4 r5 (fun r61 => K (decide (r60 = r61)))))) else ((K false) ∧ (K false))) else ((K true) ∧ (K true)))
def laws_FnBitsTurns.j1 (K : Bool → Prop) (n : Nat) (r4 : Int) (r5 : List Int) : Prop :=
  if (decide (IntKind.wrap .i64 (3 * r4) ≤ 4096)) = true then (impl_RepeatBits.c n r4 r5 3 (fun r62 r63 r64 => if (!r64) = false then ((impl_CountOnes.c n r62 r63 (fun r72 => impl_CountOnes.c n r4 r5 (fun r73 => let t74 : Bool := !(decide (r72 = IntKind.wrap .i64 (3 * r73))); if t74 = true then (K false) else (laws_FnBitsTurns.j0 K n r4 r5)))) ∧ (impl_CountOnes.c n r62 r63 (fun r75 => impl_CountOnes.c n r4 r5 (fun r76 => let t77 : Bool := !(decide (r75 = IntKind.wrap .i64 (3 * r76))); if t77 = true then (K false) else (laws_FnBitsTurns.j0 K n r4 r5))))) else ((K false) ∧ (K false)))) else (laws_FnBitsTurns.j0 K n r4 r5)
def laws_FnBitsTurns.j2 (K : Bool → Prop) (n : Nat) (r4 : Int) (r5 : List Int) (r10 : Int) (r11 : List Int) (j20 : Bool) (j21 : List Int) (j22 : Int) : Prop :=
  if (!j20) = false then (laws_sameBits.c n j22 j21 r4 r5 (fun r84 => if (!r84) = false then ((impl_CountOnes.c n r10 r11 (fun r85 => impl_CountOnes.c n r4 r5 (fun r86 => if (!(decide (r85 = r86))) = true then (K false) else (laws_FnBitsTurns.j1 K n r4 r5)))) ∧ (impl_CountOnes.c n r10 r11 (fun r87 => impl_CountOnes.c n r4 r5 (fun r88 => if (!(decide (r87 = r88))) = true then (K false) else (laws_FnBitsTurns.j1 K n r4 r5))))) else ((K false) ∧ (K false)))) else ((K false) ∧ (K false))
def laws_FnBitsTurns.w (n : Nat) (a1 : List Int) (K : Bool → Prop) : Prop :=
  laws_big.c n a1 (fun r3 => if r3 = true then (K true) else (spec_DrawTurnBits.c n a1 (fun r4 r5 r6 => spec_TurnBits.c n r4 r5 r6 (fun r7 r8 r9 => impl_TurnBits.c n r4 r5 r6 (fun r10 r11 r12 => if (!(r12 == r9)) = true then (K false) else (if (!r12) = true then (K true) else (grd (!(decide (r4 = 0))) (grd (!(decide (r4 = 0))) (let t89 : Int := Int.tmod (IntKind.wrap .i64 (r4 - (Int.tmod r6 r4))) r4; (impl_TurnBits.c n r10 r11 t89 (fun r90 r91 r92 => laws_FnBitsTurns.j2 K n r4 r5 r10 r11 r92 r91 r90)) ∧ (impl_TurnBits.c n r10 r11 t89 (fun r93 r94 r95 => laws_FnBitsTurns.j2 K n r4 r5 r10 r11 r95 r94 r93)))))))))))
def laws_FnBitsTurns.c : Nat → List Int → (Bool → Prop) → Prop
  | 0, _, _ => False
  | n + 1, a1, K => laws_FnBitsTurns.w n  a1 K
theorem laws_FnBitsTurns_ok (X0 : CallF) (hX : CallF.Mono X0) : ∀ (n : Nat) (a1 : List Int) (K : RES → Prop), laws_FnBitsTurns.c n a1 (fun r0 => K ⟨.c (.bool r0), []⟩) → callM C X0 n 6 [.c (.dat 5 (.int .u8) a1)] K := by
  intro n
  cases n with
  | zero => intros; exact absurd ‹_› id
  | succ n =>
    intro a1 K h
    exact call_of (fn := Try.f6) (c := bodyOf Try.f6) hX (by kernel_rfl) (by kernel_rfl) (call := D49 n) (lp := fun _ _ _ => False) (D49_ok X0 hX n) (fun _ _ _ h => h.elim) (by kernel_rfl) h
def D50 (n : Nat) : CallF := fun f a K => match f, a with
  | 6, [.c (.dat 5 (.int .u8) a1)] => laws_FnBitsTurns.c n a1 (fun r0 => K ⟨.c (.bool r0), []⟩)
  | f, a => D49 n f a K
theorem D50_ok (X0 : CallF) (hX : CallF.Mono X0) (n : Nat) : ∀ f a K, D50 n f a K → callM C X0 n f a K := by
  intro f a K h
  unfold D50 at h
  split at h
  · exact laws_FnBitsTurns_ok X0 hX n _ K h
  · exact D49_ok X0 hX n _ _ _ h

end Go.Vsi
end
