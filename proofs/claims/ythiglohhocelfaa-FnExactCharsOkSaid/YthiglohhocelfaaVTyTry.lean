/- A part of the proof: what functions of the program do, walked. No condition. -/
import Derived.Test.YthiglohhocelfaaVX
import Derived.Test.YthiglohhocelfaaProg
namespace Go.V.Try
open Go Go.Proofs.Try
theorem ty2 : tyOf prog 2 = some ⟨.int .i64, 1, 8, [.i .i64 0]⟩ := by kernel_rfl
def t2 := And.intro ty2 (And.intro (td_of ty2) (And.intro (sz_of ty2) (And.intro (ld_ptr ty2) (And.intro (ld_rptr ty2) (fvF_some ty2)))))
theorem ty3 : tyOf prog 3 = some ⟨.int .i64, 1, 8, [.i .i64 0]⟩ := by kernel_rfl
def t3 := And.intro ty3 (And.intro (td_of ty3) (And.intro (sz_of ty3) (And.intro (ld_ptr ty3) (And.intro (ld_rptr ty3) (fvF_some ty3)))))
theorem ty4 : tyOf prog 4 = some ⟨.bool, 1, 1, [.b false]⟩ := by kernel_rfl
def t4 := And.intro ty4 (And.intro (td_of ty4) (And.intro (sz_of ty4) (And.intro (ld_ptr ty4) (And.intro (ld_rptr ty4) (fvF_some ty4)))))
theorem ty5 : tyOf prog 5 = some ⟨.int .u8, 1, 1, [.i .u8 0]⟩ := by kernel_rfl
def t5 := And.intro ty5 (And.intro (td_of ty5) (And.intro (sz_of ty5) (And.intro (ld_ptr ty5) (And.intro (ld_rptr ty5) (fvF_some ty5)))))
theorem ty6 : tyOf prog 6 = some ⟨.int .u8, 1, 1, [.i .u8 0]⟩ := by kernel_rfl
def t6 := And.intro ty6 (And.intro (td_of ty6) (And.intro (sz_of ty6) (And.intro (ld_ptr ty6) (And.intro (ld_rptr ty6) (fvF_some ty6)))))
theorem ty7 : tyOf prog 7 = some ⟨.st [(0, (2, 1)), (1, (3, 1)), (2, (4, 1)), (3, (6, 1))], 4, 24, [.i .i64 0, .i .i64 0, .b false, .i .u8 0]⟩ := by kernel_rfl
def t7 := And.intro ty7 (And.intro (td_of ty7) (And.intro (sz_of ty7) (And.intro (ld_ptr ty7) (And.intro (ld_rptr ty7) (fvF_some ty7)))))
theorem ty8 : tyOf prog 8 = some ⟨.st [(0, (2, 1)), (1, (3, 1)), (2, (4, 1)), (3, (6, 1))], 4, 24, [.i .i64 0, .i .i64 0, .b false, .i .u8 0]⟩ := by kernel_rfl
def t8 := And.intro ty8 (And.intro (td_of ty8) (And.intro (sz_of ty8) (And.intro (ld_ptr ty8) (And.intro (ld_rptr ty8) (fvF_some ty8)))))
theorem ty9 : tyOf prog 9 = some ⟨.str, 1, 16, [.str []]⟩ := by kernel_rfl
def t9 := And.intro ty9 (And.intro (td_of ty9) (And.intro (sz_of ty9) (And.intro (ld_ptr ty9) (And.intro (ld_rptr ty9) (fvF_some ty9)))))
theorem ty10 : tyOf prog 10 = some ⟨.str, 1, 16, [.str []]⟩ := by kernel_rfl
def t10 := And.intro ty10 (And.intro (td_of ty10) (And.intro (sz_of ty10) (And.intro (ld_ptr ty10) (And.intro (ld_rptr ty10) (fvF_some ty10)))))
theorem ty11 : tyOf prog 11 = some ⟨.str, 1, 16, [.str []]⟩ := by kernel_rfl
def t11 := And.intro ty11 (And.intro (td_of ty11) (And.intro (sz_of ty11) (And.intro (ld_ptr ty11) (And.intro (ld_rptr ty11) (fvF_some ty11)))))
theorem ty12 : tyOf prog 12 = some ⟨.int .u64, 1, 8, [.i .u64 0]⟩ := by kernel_rfl
def t12 := And.intro ty12 (And.intro (td_of ty12) (And.intro (sz_of ty12) (And.intro (ld_ptr ty12) (And.intro (ld_rptr ty12) (fvF_some ty12)))))
theorem ty13 : tyOf prog 13 = some ⟨.st [(0, (9, 1)), (1, (12, 1))], 2, 24, [.str [], .i .u64 0]⟩ := by kernel_rfl
def t13 := And.intro ty13 (And.intro (td_of ty13) (And.intro (sz_of ty13) (And.intro (ld_ptr ty13) (And.intro (ld_rptr ty13) (fvF_some ty13)))))
theorem ty14 : tyOf prog 14 = some ⟨.st [(0, (9, 1)), (1, (12, 1))], 2, 24, [.str [], .i .u64 0]⟩ := by kernel_rfl
def t14 := And.intro ty14 (And.intro (td_of ty14) (And.intro (sz_of ty14) (And.intro (ld_ptr ty14) (And.intro (ld_rptr ty14) (fvF_some ty14)))))
theorem ty15 : tyOf prog 15 = some ⟨.ptr 124, 1, 8, [.nilp]⟩ := by kernel_rfl
def t15 := And.intro ty15 (And.intro (td_of ty15) (And.intro (sz_of ty15) (And.intro (ld_ptr ty15) (And.intro (ld_rptr ty15) (fvF_some ty15)))))
theorem ty16 : tyOf prog 16 = some ⟨.ptr 127, 1, 8, [.nilp]⟩ := by kernel_rfl
def t16 := And.intro ty16 (And.intro (td_of ty16) (And.intro (sz_of ty16) (And.intro (ld_ptr ty16) (And.intro (ld_rptr ty16) (fvF_some ty16)))))
theorem ty17 : tyOf prog 17 = some ⟨.ptr 134, 1, 8, [.nilp]⟩ := by kernel_rfl
def t17 := And.intro ty17 (And.intro (td_of ty17) (And.intro (sz_of ty17) (And.intro (ld_ptr ty17) (And.intro (ld_rptr ty17) (fvF_some ty17)))))
theorem ty18 : tyOf prog 18 = some ⟨.st [(0, (17, 1))], 1, 8, [.nilp]⟩ := by kernel_rfl
def t18 := And.intro ty18 (And.intro (td_of ty18) (And.intro (sz_of ty18) (And.intro (ld_ptr ty18) (And.intro (ld_rptr ty18) (fvF_some ty18)))))
theorem ty19 : tyOf prog 19 = some ⟨.st [(0, (17, 1))], 1, 8, [.nilp]⟩ := by kernel_rfl
def t19 := And.intro ty19 (And.intro (td_of ty19) (And.intro (sz_of ty19) (And.intro (ld_ptr ty19) (And.intro (ld_rptr ty19) (fvF_some ty19)))))
theorem ty20 : tyOf prog 20 = some ⟨.iface, 1, 16, [.nili]⟩ := by kernel_rfl
def t20 := And.intro ty20 (And.intro (td_of ty20) (And.intro (sz_of ty20) (And.intro (ld_ptr ty20) (And.intro (ld_rptr ty20) (fvF_some ty20)))))
theorem ty21 : tyOf prog 21 = some ⟨.int .i32, 1, 4, [.i .i32 0]⟩ := by kernel_rfl
def t21 := And.intro ty21 (And.intro (td_of ty21) (And.intro (sz_of ty21) (And.intro (ld_ptr ty21) (And.intro (ld_rptr ty21) (fvF_some ty21)))))
theorem ty22 : tyOf prog 22 = some ⟨.sl 61, 1, 24, [.emp]⟩ := by kernel_rfl
def t22 := And.intro ty22 (And.intro (td_of ty22) (And.intro (sz_of ty22) (And.intro (ld_ptr ty22) (And.intro (ld_rptr ty22) (fvF_some ty22)))))
theorem ty25 : tyOf prog 25 = some ⟨.sl 39, 1, 24, [.emp]⟩ := by kernel_rfl
def t25 := And.intro ty25 (And.intro (td_of ty25) (And.intro (sz_of ty25) (And.intro (ld_ptr ty25) (And.intro (ld_rptr ty25) (fvF_some ty25)))))
theorem ty34 : tyOf prog 34 = some ⟨.sl 5, 1, 24, [.emp]⟩ := by kernel_rfl
def t34 := And.intro ty34 (And.intro (td_of ty34) (And.intro (sz_of ty34) (And.intro (ld_ptr ty34) (And.intro (ld_rptr ty34) (fvF_some ty34)))))
theorem ty38 : tyOf prog 38 = some ⟨.st [(0, (9, 1)), (1, (2, 1))], 2, 24, [.str [], .i .i64 0]⟩ := by kernel_rfl
def t38 := And.intro ty38 (And.intro (td_of ty38) (And.intro (sz_of ty38) (And.intro (ld_ptr ty38) (And.intro (ld_rptr ty38) (fvF_some ty38)))))
theorem ty39 : tyOf prog 39 = some ⟨.st [(0, (9, 1)), (1, (2, 1))], 2, 24, [.str [], .i .i64 0]⟩ := by kernel_rfl
def t39 := And.intro ty39 (And.intro (td_of ty39) (And.intro (sz_of ty39) (And.intro (ld_ptr ty39) (And.intro (ld_rptr ty39) (fvF_some ty39)))))
theorem ty41 : tyOf prog 41 = some ⟨.st [(0, (2, 1)), (1, (2, 1)), (2, (2, 1)), (3, (2, 1)), (4, (2, 1)), (5, (2, 1)), (6, (2, 1)), (7, (2, 1)), (8, (2, 1)), (9, (2, 1)), (10, (4, 1)), (11, (4, 1))], 12, 88, [.i .i64 0, .i .i64 0, .i .i64 0, .i .i64 0, .i .i64 0, .i .i64 0, .i .i64 0, .i .i64 0, .i .i64 0, .i .i64 0, .b false, .b false]⟩ := by kernel_rfl
def t41 := And.intro ty41 (And.intro (td_of ty41) (And.intro (sz_of ty41) (And.intro (ld_ptr ty41) (And.intro (ld_rptr ty41) (fvF_some ty41)))))
theorem ty42 : tyOf prog 42 = some ⟨.st [(0, (2, 1)), (1, (2, 1)), (2, (2, 1)), (3, (2, 1)), (4, (2, 1)), (5, (2, 1)), (6, (2, 1)), (7, (2, 1)), (8, (2, 1)), (9, (2, 1)), (10, (4, 1)), (11, (4, 1))], 12, 88, [.i .i64 0, .i .i64 0, .i .i64 0, .i .i64 0, .i .i64 0, .i .i64 0, .i .i64 0, .i .i64 0, .i .i64 0, .i .i64 0, .b false, .b false]⟩ := by kernel_rfl
def t42 := And.intro ty42 (And.intro (td_of ty42) (And.intro (sz_of ty42) (And.intro (ld_ptr ty42) (And.intro (ld_rptr ty42) (fvF_some ty42)))))
theorem ty43 : tyOf prog 43 = some ⟨.st [(0, (9, 1)), (1, (2, 1)), (2, (2, 1)), (3, (9, 1)), (4, (2, 1)), (5, (4, 1)), (6, (2, 1))], 7, 72, [.str [], .i .i64 0, .i .i64 0, .str [], .i .i64 0, .b false, .i .i64 0]⟩ := by kernel_rfl
def t43 := And.intro ty43 (And.intro (td_of ty43) (And.intro (sz_of ty43) (And.intro (ld_ptr ty43) (And.intro (ld_rptr ty43) (fvF_some ty43)))))
theorem ty44 : tyOf prog 44 = some ⟨.st [(0, (9, 1)), (1, (2, 1)), (2, (2, 1)), (3, (9, 1)), (4, (2, 1)), (5, (4, 1)), (6, (2, 1))], 7, 72, [.str [], .i .i64 0, .i .i64 0, .str [], .i .i64 0, .b false, .i .i64 0]⟩ := by kernel_rfl
def t44 := And.intro ty44 (And.intro (td_of ty44) (And.intro (sz_of ty44) (And.intro (ld_ptr ty44) (And.intro (ld_rptr ty44) (fvF_some ty44)))))
theorem ty45 : tyOf prog 45 = some ⟨.sl 2, 1, 24, [.emp]⟩ := by kernel_rfl
def t45 := And.intro ty45 (And.intro (td_of ty45) (And.intro (sz_of ty45) (And.intro (ld_ptr ty45) (And.intro (ld_rptr ty45) (fvF_some ty45)))))
theorem ty46 : tyOf prog 46 = some ⟨.st [(0, (42, 12)), (12, (44, 7)), (19, (9, 1)), (20, (9, 1)), (21, (45, 1)), (22, (2, 1))], 23, 224, [.i .i64 0, .i .i64 0, .i .i64 0, .i .i64 0, .i .i64 0, .i .i64 0, .i .i64 0, .i .i64 0, .i .i64 0, .i .i64 0, .b false, .b false, .str [], .i .i64 0, .i .i64 0, .str [], .i .i64 0, .b false, .i .i64 0, .str [], .str [], .emp, .i .i64 0]⟩ := by kernel_rfl
def t46 := And.intro ty46 (And.intro (td_of ty46) (And.intro (sz_of ty46) (And.intro (ld_ptr ty46) (And.intro (ld_rptr ty46) (fvF_some ty46)))))
theorem ty47 : tyOf prog 47 = some ⟨.st [(0, (42, 12)), (12, (44, 7)), (19, (9, 1)), (20, (9, 1)), (21, (45, 1)), (22, (2, 1))], 23, 224, [.i .i64 0, .i .i64 0, .i .i64 0, .i .i64 0, .i .i64 0, .i .i64 0, .i .i64 0, .i .i64 0, .i .i64 0, .i .i64 0, .b false, .b false, .str [], .i .i64 0, .i .i64 0, .str [], .i .i64 0, .b false, .i .i64 0, .str [], .str [], .emp, .i .i64 0]⟩ := by kernel_rfl
def t47 := And.intro ty47 (And.intro (td_of ty47) (And.intro (sz_of ty47) (And.intro (ld_ptr ty47) (And.intro (ld_rptr ty47) (fvF_some ty47)))))
theorem ty49 : tyOf prog 49 = some ⟨.st [(0, (2, 1)), (1, (2, 1))], 2, 16, [.i .i64 0, .i .i64 0]⟩ := by kernel_rfl
def t49 := And.intro ty49 (And.intro (td_of ty49) (And.intro (sz_of ty49) (And.intro (ld_ptr ty49) (And.intro (ld_rptr ty49) (fvF_some ty49)))))
theorem ty50 : tyOf prog 50 = some ⟨.st [(0, (2, 1)), (1, (2, 1))], 2, 16, [.i .i64 0, .i .i64 0]⟩ := by kernel_rfl
def t50 := And.intro ty50 (And.intro (td_of ty50) (And.intro (sz_of ty50) (And.intro (ld_ptr ty50) (And.intro (ld_rptr ty50) (fvF_some ty50)))))
theorem ty52 : tyOf prog 52 = some ⟨.st [(0, (2, 1)), (1, (2, 1)), (2, (2, 1)), (3, (2, 1)), (4, (2, 1)), (5, (2, 1)), (6, (2, 1)), (7, (2, 1)), (8, (2, 1)), (9, (2, 1)), (10, (4, 1)), (11, (4, 1))], 12, 88, [.i .i64 0, .i .i64 0, .i .i64 0, .i .i64 0, .i .i64 0, .i .i64 0, .i .i64 0, .i .i64 0, .i .i64 0, .i .i64 0, .b false, .b false]⟩ := by kernel_rfl
def t52 := And.intro ty52 (And.intro (td_of ty52) (And.intro (sz_of ty52) (And.intro (ld_ptr ty52) (And.intro (ld_rptr ty52) (fvF_some ty52)))))
theorem ty53 : tyOf prog 53 = some ⟨.st [(0, (9, 1)), (1, (2, 1)), (2, (2, 1)), (3, (9, 1)), (4, (2, 1)), (5, (4, 1)), (6, (2, 1))], 7, 72, [.str [], .i .i64 0, .i .i64 0, .str [], .i .i64 0, .b false, .i .i64 0]⟩ := by kernel_rfl
def t53 := And.intro ty53 (And.intro (td_of ty53) (And.intro (sz_of ty53) (And.intro (ld_ptr ty53) (And.intro (ld_rptr ty53) (fvF_some ty53)))))
theorem ty54 : tyOf prog 54 = some ⟨.st [(0, (52, 12)), (12, (53, 7)), (19, (9, 1)), (20, (9, 1)), (21, (45, 1)), (22, (2, 1))], 23, 224, [.i .i64 0, .i .i64 0, .i .i64 0, .i .i64 0, .i .i64 0, .i .i64 0, .i .i64 0, .i .i64 0, .i .i64 0, .i .i64 0, .b false, .b false, .str [], .i .i64 0, .i .i64 0, .str [], .i .i64 0, .b false, .i .i64 0, .str [], .str [], .emp, .i .i64 0]⟩ := by kernel_rfl
def t54 := And.intro ty54 (And.intro (td_of ty54) (And.intro (sz_of ty54) (And.intro (ld_ptr ty54) (And.intro (ld_rptr ty54) (fvF_some ty54)))))
theorem ty55 : tyOf prog 55 = some ⟨.st [(0, (52, 12)), (12, (53, 7)), (19, (9, 1)), (20, (9, 1)), (21, (45, 1)), (22, (2, 1))], 23, 224, [.i .i64 0, .i .i64 0, .i .i64 0, .i .i64 0, .i .i64 0, .i .i64 0, .i .i64 0, .i .i64 0, .i .i64 0, .i .i64 0, .b false, .b false, .str [], .i .i64 0, .i .i64 0, .str [], .i .i64 0, .b false, .i .i64 0, .str [], .str [], .emp, .i .i64 0]⟩ := by kernel_rfl
def t55 := And.intro ty55 (And.intro (td_of ty55) (And.intro (sz_of ty55) (And.intro (ld_ptr ty55) (And.intro (ld_rptr ty55) (fvF_some ty55)))))
theorem ty61 : tyOf prog 61 = some ⟨.st [(0, (9, 1)), (1, (2, 1))], 2, 24, [.str [], .i .i64 0]⟩ := by kernel_rfl
def t61 := And.intro ty61 (And.intro (td_of ty61) (And.intro (sz_of ty61) (And.intro (ld_ptr ty61) (And.intro (ld_rptr ty61) (fvF_some ty61)))))
theorem ty67 : tyOf prog 67 = some ⟨.ptr 69, 1, 8, [.nilp]⟩ := by kernel_rfl
def t67 := And.intro ty67 (And.intro (td_of ty67) (And.intro (sz_of ty67) (And.intro (ld_ptr ty67) (And.intro (ld_rptr ty67) (fvF_some ty67)))))
theorem ty68 : tyOf prog 68 = some ⟨.st [(0, (67, 1)), (1, (34, 1))], 2, 32, [.nilp, .emp]⟩ := by kernel_rfl
def t68 := And.intro ty68 (And.intro (td_of ty68) (And.intro (sz_of ty68) (And.intro (ld_ptr ty68) (And.intro (ld_rptr ty68) (fvF_some ty68)))))
theorem ty69 : tyOf prog 69 = some ⟨.st [(0, (67, 1)), (1, (34, 1))], 2, 32, [.nilp, .emp]⟩ := by kernel_rfl
def t69 := And.intro ty69 (And.intro (td_of ty69) (And.intro (sz_of ty69) (And.intro (ld_ptr ty69) (And.intro (ld_rptr ty69) (fvF_some ty69)))))
theorem ty70 : tyOf prog 70 = some ⟨.iface, 1, 16, [.nili]⟩ := by kernel_rfl
def t70 := And.intro ty70 (And.intro (td_of ty70) (And.intro (sz_of ty70) (And.intro (ld_ptr ty70) (And.intro (ld_rptr ty70) (fvF_some ty70)))))
theorem ty71 : tyOf prog 71 = some ⟨.iface, 1, 16, [.nili]⟩ := by kernel_rfl
def t71 := And.intro ty71 (And.intro (td_of ty71) (And.intro (sz_of ty71) (And.intro (ld_ptr ty71) (And.intro (ld_rptr ty71) (fvF_some ty71)))))
theorem ty78 : tyOf prog 78 = some ⟨.ptr 102, 1, 8, [.nilp]⟩ := by kernel_rfl
def t78 := And.intro ty78 (And.intro (td_of ty78) (And.intro (sz_of ty78) (And.intro (ld_ptr ty78) (And.intro (ld_rptr ty78) (fvF_some ty78)))))
theorem ty84 : tyOf prog 84 = some ⟨.sl 9, 1, 24, [.emp]⟩ := by kernel_rfl
def t84 := And.intro ty84 (And.intro (td_of ty84) (And.intro (sz_of ty84) (And.intro (ld_ptr ty84) (And.intro (ld_rptr ty84) (fvF_some ty84)))))
theorem ty87 : tyOf prog 87 = some ⟨.sl 3, 1, 24, [.emp]⟩ := by kernel_rfl
def t87 := And.intro ty87 (And.intro (td_of ty87) (And.intro (sz_of ty87) (And.intro (ld_ptr ty87) (And.intro (ld_rptr ty87) (fvF_some ty87)))))
theorem ty99 : tyOf prog 99 = some ⟨.int .u64, 1, 8, [.i .u64 0]⟩ := by kernel_rfl
def t99 := And.intro ty99 (And.intro (td_of ty99) (And.intro (sz_of ty99) (And.intro (ld_ptr ty99) (And.intro (ld_rptr ty99) (fvF_some ty99)))))
theorem ty100 : tyOf prog 100 = some ⟨.ptr 5, 1, 8, [.nilp]⟩ := by kernel_rfl
def t100 := And.intro ty100 (And.intro (td_of ty100) (And.intro (sz_of ty100) (And.intro (ld_ptr ty100) (And.intro (ld_rptr ty100) (fvF_some ty100)))))
theorem ty101 : tyOf prog 101 = some ⟨.st [(0, (34, 1)), (1, (3, 1))], 2, 32, [.emp, .i .i64 0]⟩ := by kernel_rfl
def t101 := And.intro ty101 (And.intro (td_of ty101) (And.intro (sz_of ty101) (And.intro (ld_ptr ty101) (And.intro (ld_rptr ty101) (fvF_some ty101)))))
theorem ty102 : tyOf prog 102 = some ⟨.st [(0, (34, 1)), (1, (3, 1))], 2, 32, [.emp, .i .i64 0]⟩ := by kernel_rfl
def t102 := And.intro ty102 (And.intro (td_of ty102) (And.intro (sz_of ty102) (And.intro (ld_ptr ty102) (And.intro (ld_rptr ty102) (fvF_some ty102)))))
theorem ty113 : tyOf prog 113 = some ⟨.int .u32, 1, 4, [.i .u32 0]⟩ := by kernel_rfl
def t113 := And.intro ty113 (And.intro (td_of ty113) (And.intro (sz_of ty113) (And.intro (ld_ptr ty113) (And.intro (ld_rptr ty113) (fvF_some ty113)))))
theorem ty116 : tyOf prog 116 = some ⟨.int .u64, 1, 8, [.i .u64 0]⟩ := by kernel_rfl
def t116 := And.intro ty116 (And.intro (td_of ty116) (And.intro (sz_of ty116) (And.intro (ld_ptr ty116) (And.intro (ld_rptr ty116) (fvF_some ty116)))))
theorem ty123 : tyOf prog 123 = some ⟨.st [(0, (17, 1)), (1, (17, 1)), (2, (17, 1)), (3, (9, 1))], 4, 40, [.nilp, .nilp, .nilp, .str []]⟩ := by kernel_rfl
def t123 := And.intro ty123 (And.intro (td_of ty123) (And.intro (sz_of ty123) (And.intro (ld_ptr ty123) (And.intro (ld_rptr ty123) (fvF_some ty123)))))
theorem ty124 : tyOf prog 124 = some ⟨.st [(0, (17, 1)), (1, (17, 1)), (2, (17, 1)), (3, (9, 1))], 4, 40, [.nilp, .nilp, .nilp, .str []]⟩ := by kernel_rfl
def t124 := And.intro ty124 (And.intro (td_of ty124) (And.intro (sz_of ty124) (And.intro (ld_ptr ty124) (And.intro (ld_rptr ty124) (fvF_some ty124)))))
theorem ty125 : tyOf prog 125 = some ⟨.arr 0 16, 0, 0, []⟩ := by kernel_rfl
def t125 := And.intro ty125 (And.intro (td_of ty125) (And.intro (sz_of ty125) (And.intro (ld_ptr ty125) (And.intro (ld_rptr ty125) (fvF_some ty125)))))
theorem ty126 : tyOf prog 126 = some ⟨.st [(0, (125, 0))], 0, 0, []⟩ := by kernel_rfl
def t126 := And.intro ty126 (And.intro (td_of ty126) (And.intro (sz_of ty126) (And.intro (ld_ptr ty126) (And.intro (ld_rptr ty126) (fvF_some ty126)))))
theorem ty127 : tyOf prog 127 = some ⟨.st [(0, (125, 0))], 0, 0, []⟩ := by kernel_rfl
def t127 := And.intro ty127 (And.intro (td_of ty127) (And.intro (sz_of ty127) (And.intro (ld_ptr ty127) (And.intro (ld_rptr ty127) (fvF_some ty127)))))
theorem ty128 : tyOf prog 128 = some ⟨.int .u8, 1, 1, [.i .u8 0]⟩ := by kernel_rfl
def t128 := And.intro ty128 (And.intro (td_of ty128) (And.intro (sz_of ty128) (And.intro (ld_ptr ty128) (And.intro (ld_rptr ty128) (fvF_some ty128)))))
theorem ty129 : tyOf prog 129 = some ⟨.int .u8, 1, 1, [.i .u8 0]⟩ := by kernel_rfl
def t129 := And.intro ty129 (And.intro (td_of ty129) (And.intro (sz_of ty129) (And.intro (ld_ptr ty129) (And.intro (ld_rptr ty129) (fvF_some ty129)))))
theorem ty131 : tyOf prog 131 = some ⟨.int .i32, 1, 4, [.i .i32 0]⟩ := by kernel_rfl
def t131 := And.intro ty131 (And.intro (td_of ty131) (And.intro (sz_of ty131) (And.intro (ld_ptr ty131) (And.intro (ld_rptr ty131) (fvF_some ty131)))))
theorem ty132 : tyOf prog 132 = some ⟨.int .i32, 1, 4, [.i .i32 0]⟩ := by kernel_rfl
def t132 := And.intro ty132 (And.intro (td_of ty132) (And.intro (sz_of ty132) (And.intro (ld_ptr ty132) (And.intro (ld_rptr ty132) (fvF_some ty132)))))
end Go.V.Try
