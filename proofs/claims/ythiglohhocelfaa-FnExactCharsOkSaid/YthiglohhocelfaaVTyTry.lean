/- A part of the proof: what functions of the program do, walked. No condition. -/
import Derived.Test.YthiglohhocelfaaVX
import Derived.Test.YthiglohhocelfaaProg
set_option linter.unusedVariables false
set_option linter.unusedSimpArgs false
namespace Go.V.Try
open Go Go.Proofs.Try
theorem ty2 : tyOf prog 2 = some ⟨.int .i64, 1, 8, [.i .i64 0]⟩ := by kernel_rfl
theorem t2 : (type_of% ty2) ∧ (type_of% (td_of ty2)) ∧ (type_of% (sz_of ty2)) ∧ (type_of% (ld_ptr ty2)) ∧ (type_of% (ld_rptr ty2)) ∧ (type_of% (fvF_some ty2)) := ⟨ty2, td_of ty2, sz_of ty2, ld_ptr ty2, ld_rptr ty2, fvF_some ty2⟩
theorem ty3 : tyOf prog 3 = some ⟨.int .i64, 1, 8, [.i .i64 0]⟩ := by kernel_rfl
theorem t3 : (type_of% ty3) ∧ (type_of% (td_of ty3)) ∧ (type_of% (sz_of ty3)) ∧ (type_of% (ld_ptr ty3)) ∧ (type_of% (ld_rptr ty3)) ∧ (type_of% (fvF_some ty3)) := ⟨ty3, td_of ty3, sz_of ty3, ld_ptr ty3, ld_rptr ty3, fvF_some ty3⟩
theorem ty4 : tyOf prog 4 = some ⟨.bool, 1, 1, [.b false]⟩ := by kernel_rfl
theorem t4 : (type_of% ty4) ∧ (type_of% (td_of ty4)) ∧ (type_of% (sz_of ty4)) ∧ (type_of% (ld_ptr ty4)) ∧ (type_of% (ld_rptr ty4)) ∧ (type_of% (fvF_some ty4)) := ⟨ty4, td_of ty4, sz_of ty4, ld_ptr ty4, ld_rptr ty4, fvF_some ty4⟩
theorem ty5 : tyOf prog 5 = some ⟨.int .u8, 1, 1, [.i .u8 0]⟩ := by kernel_rfl
theorem t5 : (type_of% ty5) ∧ (type_of% (td_of ty5)) ∧ (type_of% (sz_of ty5)) ∧ (type_of% (ld_ptr ty5)) ∧ (type_of% (ld_rptr ty5)) ∧ (type_of% (fvF_some ty5)) := ⟨ty5, td_of ty5, sz_of ty5, ld_ptr ty5, ld_rptr ty5, fvF_some ty5⟩
theorem ty6 : tyOf prog 6 = some ⟨.int .u8, 1, 1, [.i .u8 0]⟩ := by kernel_rfl
theorem t6 : (type_of% ty6) ∧ (type_of% (td_of ty6)) ∧ (type_of% (sz_of ty6)) ∧ (type_of% (ld_ptr ty6)) ∧ (type_of% (ld_rptr ty6)) ∧ (type_of% (fvF_some ty6)) := ⟨ty6, td_of ty6, sz_of ty6, ld_ptr ty6, ld_rptr ty6, fvF_some ty6⟩
theorem ty7 : tyOf prog 7 = some ⟨.st [(0, (2, 1)), (1, (3, 1)), (2, (4, 1)), (3, (6, 1))], 4, 24, [.i .i64 0, .i .i64 0, .b false, .i .u8 0]⟩ := by kernel_rfl
theorem t7 : (type_of% ty7) ∧ (type_of% (td_of ty7)) ∧ (type_of% (sz_of ty7)) ∧ (type_of% (ld_ptr ty7)) ∧ (type_of% (ld_rptr ty7)) ∧ (type_of% (fvF_some ty7)) := ⟨ty7, td_of ty7, sz_of ty7, ld_ptr ty7, ld_rptr ty7, fvF_some ty7⟩
theorem ty8 : tyOf prog 8 = some ⟨.st [(0, (2, 1)), (1, (3, 1)), (2, (4, 1)), (3, (6, 1))], 4, 24, [.i .i64 0, .i .i64 0, .b false, .i .u8 0]⟩ := by kernel_rfl
theorem t8 : (type_of% ty8) ∧ (type_of% (td_of ty8)) ∧ (type_of% (sz_of ty8)) ∧ (type_of% (ld_ptr ty8)) ∧ (type_of% (ld_rptr ty8)) ∧ (type_of% (fvF_some ty8)) := ⟨ty8, td_of ty8, sz_of ty8, ld_ptr ty8, ld_rptr ty8, fvF_some ty8⟩
theorem ty9 : tyOf prog 9 = some ⟨.str, 1, 16, [.str []]⟩ := by kernel_rfl
theorem t9 : (type_of% ty9) ∧ (type_of% (td_of ty9)) ∧ (type_of% (sz_of ty9)) ∧ (type_of% (ld_ptr ty9)) ∧ (type_of% (ld_rptr ty9)) ∧ (type_of% (fvF_some ty9)) := ⟨ty9, td_of ty9, sz_of ty9, ld_ptr ty9, ld_rptr ty9, fvF_some ty9⟩
theorem ty10 : tyOf prog 10 = some ⟨.str, 1, 16, [.str []]⟩ := by kernel_rfl
theorem t10 : (type_of% ty10) ∧ (type_of% (td_of ty10)) ∧ (type_of% (sz_of ty10)) ∧ (type_of% (ld_ptr ty10)) ∧ (type_of% (ld_rptr ty10)) ∧ (type_of% (fvF_some ty10)) := ⟨ty10, td_of ty10, sz_of ty10, ld_ptr ty10, ld_rptr ty10, fvF_some ty10⟩
theorem ty11 : tyOf prog 11 = some ⟨.str, 1, 16, [.str []]⟩ := by kernel_rfl
theorem t11 : (type_of% ty11) ∧ (type_of% (td_of ty11)) ∧ (type_of% (sz_of ty11)) ∧ (type_of% (ld_ptr ty11)) ∧ (type_of% (ld_rptr ty11)) ∧ (type_of% (fvF_some ty11)) := ⟨ty11, td_of ty11, sz_of ty11, ld_ptr ty11, ld_rptr ty11, fvF_some ty11⟩
theorem ty12 : tyOf prog 12 = some ⟨.int .u64, 1, 8, [.i .u64 0]⟩ := by kernel_rfl
theorem t12 : (type_of% ty12) ∧ (type_of% (td_of ty12)) ∧ (type_of% (sz_of ty12)) ∧ (type_of% (ld_ptr ty12)) ∧ (type_of% (ld_rptr ty12)) ∧ (type_of% (fvF_some ty12)) := ⟨ty12, td_of ty12, sz_of ty12, ld_ptr ty12, ld_rptr ty12, fvF_some ty12⟩
theorem ty13 : tyOf prog 13 = some ⟨.st [(0, (9, 1)), (1, (12, 1))], 2, 24, [.str [], .i .u64 0]⟩ := by kernel_rfl
theorem t13 : (type_of% ty13) ∧ (type_of% (td_of ty13)) ∧ (type_of% (sz_of ty13)) ∧ (type_of% (ld_ptr ty13)) ∧ (type_of% (ld_rptr ty13)) ∧ (type_of% (fvF_some ty13)) := ⟨ty13, td_of ty13, sz_of ty13, ld_ptr ty13, ld_rptr ty13, fvF_some ty13⟩
theorem ty14 : tyOf prog 14 = some ⟨.st [(0, (9, 1)), (1, (12, 1))], 2, 24, [.str [], .i .u64 0]⟩ := by kernel_rfl
theorem t14 : (type_of% ty14) ∧ (type_of% (td_of ty14)) ∧ (type_of% (sz_of ty14)) ∧ (type_of% (ld_ptr ty14)) ∧ (type_of% (ld_rptr ty14)) ∧ (type_of% (fvF_some ty14)) := ⟨ty14, td_of ty14, sz_of ty14, ld_ptr ty14, ld_rptr ty14, fvF_some ty14⟩
theorem ty15 : tyOf prog 15 = some ⟨.ptr 124, 1, 8, [.nilp]⟩ := by kernel_rfl
theorem t15 : (type_of% ty15) ∧ (type_of% (td_of ty15)) ∧ (type_of% (sz_of ty15)) ∧ (type_of% (ld_ptr ty15)) ∧ (type_of% (ld_rptr ty15)) ∧ (type_of% (fvF_some ty15)) := ⟨ty15, td_of ty15, sz_of ty15, ld_ptr ty15, ld_rptr ty15, fvF_some ty15⟩
theorem ty16 : tyOf prog 16 = some ⟨.ptr 127, 1, 8, [.nilp]⟩ := by kernel_rfl
theorem t16 : (type_of% ty16) ∧ (type_of% (td_of ty16)) ∧ (type_of% (sz_of ty16)) ∧ (type_of% (ld_ptr ty16)) ∧ (type_of% (ld_rptr ty16)) ∧ (type_of% (fvF_some ty16)) := ⟨ty16, td_of ty16, sz_of ty16, ld_ptr ty16, ld_rptr ty16, fvF_some ty16⟩
theorem ty17 : tyOf prog 17 = some ⟨.ptr 134, 1, 8, [.nilp]⟩ := by kernel_rfl
theorem t17 : (type_of% ty17) ∧ (type_of% (td_of ty17)) ∧ (type_of% (sz_of ty17)) ∧ (type_of% (ld_ptr ty17)) ∧ (type_of% (ld_rptr ty17)) ∧ (type_of% (fvF_some ty17)) := ⟨ty17, td_of ty17, sz_of ty17, ld_ptr ty17, ld_rptr ty17, fvF_some ty17⟩
theorem ty18 : tyOf prog 18 = some ⟨.st [(0, (17, 1))], 1, 8, [.nilp]⟩ := by kernel_rfl
theorem t18 : (type_of% ty18) ∧ (type_of% (td_of ty18)) ∧ (type_of% (sz_of ty18)) ∧ (type_of% (ld_ptr ty18)) ∧ (type_of% (ld_rptr ty18)) ∧ (type_of% (fvF_some ty18)) := ⟨ty18, td_of ty18, sz_of ty18, ld_ptr ty18, ld_rptr ty18, fvF_some ty18⟩
theorem ty19 : tyOf prog 19 = some ⟨.st [(0, (17, 1))], 1, 8, [.nilp]⟩ := by kernel_rfl
theorem t19 : (type_of% ty19) ∧ (type_of% (td_of ty19)) ∧ (type_of% (sz_of ty19)) ∧ (type_of% (ld_ptr ty19)) ∧ (type_of% (ld_rptr ty19)) ∧ (type_of% (fvF_some ty19)) := ⟨ty19, td_of ty19, sz_of ty19, ld_ptr ty19, ld_rptr ty19, fvF_some ty19⟩
theorem ty20 : tyOf prog 20 = some ⟨.iface, 1, 16, [.nili]⟩ := by kernel_rfl
theorem t20 : (type_of% ty20) ∧ (type_of% (td_of ty20)) ∧ (type_of% (sz_of ty20)) ∧ (type_of% (ld_ptr ty20)) ∧ (type_of% (ld_rptr ty20)) ∧ (type_of% (fvF_some ty20)) := ⟨ty20, td_of ty20, sz_of ty20, ld_ptr ty20, ld_rptr ty20, fvF_some ty20⟩
theorem ty21 : tyOf prog 21 = some ⟨.int .i32, 1, 4, [.i .i32 0]⟩ := by kernel_rfl
theorem t21 : (type_of% ty21) ∧ (type_of% (td_of ty21)) ∧ (type_of% (sz_of ty21)) ∧ (type_of% (ld_ptr ty21)) ∧ (type_of% (ld_rptr ty21)) ∧ (type_of% (fvF_some ty21)) := ⟨ty21, td_of ty21, sz_of ty21, ld_ptr ty21, ld_rptr ty21, fvF_some ty21⟩
theorem ty22 : tyOf prog 22 = some ⟨.sl 61, 1, 24, [.emp]⟩ := by kernel_rfl
theorem t22 : (type_of% ty22) ∧ (type_of% (td_of ty22)) ∧ (type_of% (sz_of ty22)) ∧ (type_of% (ld_ptr ty22)) ∧ (type_of% (ld_rptr ty22)) ∧ (type_of% (fvF_some ty22)) := ⟨ty22, td_of ty22, sz_of ty22, ld_ptr ty22, ld_rptr ty22, fvF_some ty22⟩
theorem ty25 : tyOf prog 25 = some ⟨.sl 39, 1, 24, [.emp]⟩ := by kernel_rfl
theorem t25 : (type_of% ty25) ∧ (type_of% (td_of ty25)) ∧ (type_of% (sz_of ty25)) ∧ (type_of% (ld_ptr ty25)) ∧ (type_of% (ld_rptr ty25)) ∧ (type_of% (fvF_some ty25)) := ⟨ty25, td_of ty25, sz_of ty25, ld_ptr ty25, ld_rptr ty25, fvF_some ty25⟩
theorem ty34 : tyOf prog 34 = some ⟨.sl 5, 1, 24, [.emp]⟩ := by kernel_rfl
theorem t34 : (type_of% ty34) ∧ (type_of% (td_of ty34)) ∧ (type_of% (sz_of ty34)) ∧ (type_of% (ld_ptr ty34)) ∧ (type_of% (ld_rptr ty34)) ∧ (type_of% (fvF_some ty34)) := ⟨ty34, td_of ty34, sz_of ty34, ld_ptr ty34, ld_rptr ty34, fvF_some ty34⟩
theorem ty38 : tyOf prog 38 = some ⟨.st [(0, (9, 1)), (1, (2, 1))], 2, 24, [.str [], .i .i64 0]⟩ := by kernel_rfl
theorem t38 : (type_of% ty38) ∧ (type_of% (td_of ty38)) ∧ (type_of% (sz_of ty38)) ∧ (type_of% (ld_ptr ty38)) ∧ (type_of% (ld_rptr ty38)) ∧ (type_of% (fvF_some ty38)) := ⟨ty38, td_of ty38, sz_of ty38, ld_ptr ty38, ld_rptr ty38, fvF_some ty38⟩
theorem ty39 : tyOf prog 39 = some ⟨.st [(0, (9, 1)), (1, (2, 1))], 2, 24, [.str [], .i .i64 0]⟩ := by kernel_rfl
theorem t39 : (type_of% ty39) ∧ (type_of% (td_of ty39)) ∧ (type_of% (sz_of ty39)) ∧ (type_of% (ld_ptr ty39)) ∧ (type_of% (ld_rptr ty39)) ∧ (type_of% (fvF_some ty39)) := ⟨ty39, td_of ty39, sz_of ty39, ld_ptr ty39, ld_rptr ty39, fvF_some ty39⟩
theorem ty41 : tyOf prog 41 = some ⟨.st [(0, (2, 1)), (1, (2, 1)), (2, (2, 1)), (3, (2, 1)), (4, (2, 1)), (5, (2, 1)), (6, (2, 1)), (7, (2, 1)), (8, (2, 1)), (9, (2, 1)), (10, (4, 1)), (11, (4, 1))], 12, 88, [.i .i64 0, .i .i64 0, .i .i64 0, .i .i64 0, .i .i64 0, .i .i64 0, .i .i64 0, .i .i64 0, .i .i64 0, .i .i64 0, .b false, .b false]⟩ := by kernel_rfl
theorem t41 : (type_of% ty41) ∧ (type_of% (td_of ty41)) ∧ (type_of% (sz_of ty41)) ∧ (type_of% (ld_ptr ty41)) ∧ (type_of% (ld_rptr ty41)) ∧ (type_of% (fvF_some ty41)) := ⟨ty41, td_of ty41, sz_of ty41, ld_ptr ty41, ld_rptr ty41, fvF_some ty41⟩
theorem ty42 : tyOf prog 42 = some ⟨.st [(0, (2, 1)), (1, (2, 1)), (2, (2, 1)), (3, (2, 1)), (4, (2, 1)), (5, (2, 1)), (6, (2, 1)), (7, (2, 1)), (8, (2, 1)), (9, (2, 1)), (10, (4, 1)), (11, (4, 1))], 12, 88, [.i .i64 0, .i .i64 0, .i .i64 0, .i .i64 0, .i .i64 0, .i .i64 0, .i .i64 0, .i .i64 0, .i .i64 0, .i .i64 0, .b false, .b false]⟩ := by kernel_rfl
theorem t42 : (type_of% ty42) ∧ (type_of% (td_of ty42)) ∧ (type_of% (sz_of ty42)) ∧ (type_of% (ld_ptr ty42)) ∧ (type_of% (ld_rptr ty42)) ∧ (type_of% (fvF_some ty42)) := ⟨ty42, td_of ty42, sz_of ty42, ld_ptr ty42, ld_rptr ty42, fvF_some ty42⟩
theorem ty43 : tyOf prog 43 = some ⟨.st [(0, (9, 1)), (1, (2, 1)), (2, (2, 1)), (3, (9, 1)), (4, (2, 1)), (5, (4, 1)), (6, (2, 1))], 7, 72, [.str [], .i .i64 0, .i .i64 0, .str [], .i .i64 0, .b false, .i .i64 0]⟩ := by kernel_rfl
theorem t43 : (type_of% ty43) ∧ (type_of% (td_of ty43)) ∧ (type_of% (sz_of ty43)) ∧ (type_of% (ld_ptr ty43)) ∧ (type_of% (ld_rptr ty43)) ∧ (type_of% (fvF_some ty43)) := ⟨ty43, td_of ty43, sz_of ty43, ld_ptr ty43, ld_rptr ty43, fvF_some ty43⟩
theorem ty44 : tyOf prog 44 = some ⟨.st [(0, (9, 1)), (1, (2, 1)), (2, (2, 1)), (3, (9, 1)), (4, (2, 1)), (5, (4, 1)), (6, (2, 1))], 7, 72, [.str [], .i .i64 0, .i .i64 0, .str [], .i .i64 0, .b false, .i .i64 0]⟩ := by kernel_rfl
theorem t44 : (type_of% ty44) ∧ (type_of% (td_of ty44)) ∧ (type_of% (sz_of ty44)) ∧ (type_of% (ld_ptr ty44)) ∧ (type_of% (ld_rptr ty44)) ∧ (type_of% (fvF_some ty44)) := ⟨ty44, td_of ty44, sz_of ty44, ld_ptr ty44, ld_rptr ty44, fvF_some ty44⟩
theorem ty45 : tyOf prog 45 = some ⟨.sl 2, 1, 24, [.emp]⟩ := by kernel_rfl
theorem t45 : (type_of% ty45) ∧ (type_of% (td_of ty45)) ∧ (type_of% (sz_of ty45)) ∧ (type_of% (ld_ptr ty45)) ∧ (type_of% (ld_rptr ty45)) ∧ (type_of% (fvF_some ty45)) := ⟨ty45, td_of ty45, sz_of ty45, ld_ptr ty45, ld_rptr ty45, fvF_some ty45⟩
theorem ty46 : tyOf prog 46 = some ⟨.st [(0, (42, 12)), (12, (44, 7)), (19, (9, 1)), (20, (9, 1)), (21, (45, 1)), (22, (2, 1))], 23, 224, [.i .i64 0, .i .i64 0, .i .i64 0, .i .i64 0, .i .i64 0, .i .i64 0, .i .i64 0, .i .i64 0, .i .i64 0, .i .i64 0, .b false, .b false, .str [], .i .i64 0, .i .i64 0, .str [], .i .i64 0, .b false, .i .i64 0, .str [], .str [], .emp, .i .i64 0]⟩ := by kernel_rfl
theorem t46 : (type_of% ty46) ∧ (type_of% (td_of ty46)) ∧ (type_of% (sz_of ty46)) ∧ (type_of% (ld_ptr ty46)) ∧ (type_of% (ld_rptr ty46)) ∧ (type_of% (fvF_some ty46)) := ⟨ty46, td_of ty46, sz_of ty46, ld_ptr ty46, ld_rptr ty46, fvF_some ty46⟩
theorem ty47 : tyOf prog 47 = some ⟨.st [(0, (42, 12)), (12, (44, 7)), (19, (9, 1)), (20, (9, 1)), (21, (45, 1)), (22, (2, 1))], 23, 224, [.i .i64 0, .i .i64 0, .i .i64 0, .i .i64 0, .i .i64 0, .i .i64 0, .i .i64 0, .i .i64 0, .i .i64 0, .i .i64 0, .b false, .b false, .str [], .i .i64 0, .i .i64 0, .str [], .i .i64 0, .b false, .i .i64 0, .str [], .str [], .emp, .i .i64 0]⟩ := by kernel_rfl
theorem t47 : (type_of% ty47) ∧ (type_of% (td_of ty47)) ∧ (type_of% (sz_of ty47)) ∧ (type_of% (ld_ptr ty47)) ∧ (type_of% (ld_rptr ty47)) ∧ (type_of% (fvF_some ty47)) := ⟨ty47, td_of ty47, sz_of ty47, ld_ptr ty47, ld_rptr ty47, fvF_some ty47⟩
theorem ty49 : tyOf prog 49 = some ⟨.st [(0, (2, 1)), (1, (2, 1))], 2, 16, [.i .i64 0, .i .i64 0]⟩ := by kernel_rfl
theorem t49 : (type_of% ty49) ∧ (type_of% (td_of ty49)) ∧ (type_of% (sz_of ty49)) ∧ (type_of% (ld_ptr ty49)) ∧ (type_of% (ld_rptr ty49)) ∧ (type_of% (fvF_some ty49)) := ⟨ty49, td_of ty49, sz_of ty49, ld_ptr ty49, ld_rptr ty49, fvF_some ty49⟩
theorem ty50 : tyOf prog 50 = some ⟨.st [(0, (2, 1)), (1, (2, 1))], 2, 16, [.i .i64 0, .i .i64 0]⟩ := by kernel_rfl
theorem t50 : (type_of% ty50) ∧ (type_of% (td_of ty50)) ∧ (type_of% (sz_of ty50)) ∧ (type_of% (ld_ptr ty50)) ∧ (type_of% (ld_rptr ty50)) ∧ (type_of% (fvF_some ty50)) := ⟨ty50, td_of ty50, sz_of ty50, ld_ptr ty50, ld_rptr ty50, fvF_some ty50⟩
theorem ty52 : tyOf prog 52 = some ⟨.st [(0, (2, 1)), (1, (2, 1)), (2, (2, 1)), (3, (2, 1)), (4, (2, 1)), (5, (2, 1)), (6, (2, 1)), (7, (2, 1)), (8, (2, 1)), (9, (2, 1)), (10, (4, 1)), (11, (4, 1))], 12, 88, [.i .i64 0, .i .i64 0, .i .i64 0, .i .i64 0, .i .i64 0, .i .i64 0, .i .i64 0, .i .i64 0, .i .i64 0, .i .i64 0, .b false, .b false]⟩ := by kernel_rfl
theorem t52 : (type_of% ty52) ∧ (type_of% (td_of ty52)) ∧ (type_of% (sz_of ty52)) ∧ (type_of% (ld_ptr ty52)) ∧ (type_of% (ld_rptr ty52)) ∧ (type_of% (fvF_some ty52)) := ⟨ty52, td_of ty52, sz_of ty52, ld_ptr ty52, ld_rptr ty52, fvF_some ty52⟩
theorem ty53 : tyOf prog 53 = some ⟨.st [(0, (9, 1)), (1, (2, 1)), (2, (2, 1)), (3, (9, 1)), (4, (2, 1)), (5, (4, 1)), (6, (2, 1))], 7, 72, [.str [], .i .i64 0, .i .i64 0, .str [], .i .i64 0, .b false, .i .i64 0]⟩ := by kernel_rfl
theorem t53 : (type_of% ty53) ∧ (type_of% (td_of ty53)) ∧ (type_of% (sz_of ty53)) ∧ (type_of% (ld_ptr ty53)) ∧ (type_of% (ld_rptr ty53)) ∧ (type_of% (fvF_some ty53)) := ⟨ty53, td_of ty53, sz_of ty53, ld_ptr ty53, ld_rptr ty53, fvF_some ty53⟩
theorem ty54 : tyOf prog 54 = some ⟨.st [(0, (52, 12)), (12, (53, 7)), (19, (9, 1)), (20, (9, 1)), (21, (45, 1)), (22, (2, 1))], 23, 224, [.i .i64 0, .i .i64 0, .i .i64 0, .i .i64 0, .i .i64 0, .i .i64 0, .i .i64 0, .i .i64 0, .i .i64 0, .i .i64 0, .b false, .b false, .str [], .i .i64 0, .i .i64 0, .str [], .i .i64 0, .b false, .i .i64 0, .str [], .str [], .emp, .i .i64 0]⟩ := by kernel_rfl
theorem t54 : (type_of% ty54) ∧ (type_of% (td_of ty54)) ∧ (type_of% (sz_of ty54)) ∧ (type_of% (ld_ptr ty54)) ∧ (type_of% (ld_rptr ty54)) ∧ (type_of% (fvF_some ty54)) := ⟨ty54, td_of ty54, sz_of ty54, ld_ptr ty54, ld_rptr ty54, fvF_some ty54⟩
theorem ty55 : tyOf prog 55 = some ⟨.st [(0, (52, 12)), (12, (53, 7)), (19, (9, 1)), (20, (9, 1)), (21, (45, 1)), (22, (2, 1))], 23, 224, [.i .i64 0, .i .i64 0, .i .i64 0, .i .i64 0, .i .i64 0, .i .i64 0, .i .i64 0, .i .i64 0, .i .i64 0, .i .i64 0, .b false, .b false, .str [], .i .i64 0, .i .i64 0, .str [], .i .i64 0, .b false, .i .i64 0, .str [], .str [], .emp, .i .i64 0]⟩ := by kernel_rfl
theorem t55 : (type_of% ty55) ∧ (type_of% (td_of ty55)) ∧ (type_of% (sz_of ty55)) ∧ (type_of% (ld_ptr ty55)) ∧ (type_of% (ld_rptr ty55)) ∧ (type_of% (fvF_some ty55)) := ⟨ty55, td_of ty55, sz_of ty55, ld_ptr ty55, ld_rptr ty55, fvF_some ty55⟩
theorem ty61 : tyOf prog 61 = some ⟨.st [(0, (9, 1)), (1, (2, 1))], 2, 24, [.str [], .i .i64 0]⟩ := by kernel_rfl
theorem t61 : (type_of% ty61) ∧ (type_of% (td_of ty61)) ∧ (type_of% (sz_of ty61)) ∧ (type_of% (ld_ptr ty61)) ∧ (type_of% (ld_rptr ty61)) ∧ (type_of% (fvF_some ty61)) := ⟨ty61, td_of ty61, sz_of ty61, ld_ptr ty61, ld_rptr ty61, fvF_some ty61⟩
theorem ty67 : tyOf prog 67 = some ⟨.ptr 69, 1, 8, [.nilp]⟩ := by kernel_rfl
theorem t67 : (type_of% ty67) ∧ (type_of% (td_of ty67)) ∧ (type_of% (sz_of ty67)) ∧ (type_of% (ld_ptr ty67)) ∧ (type_of% (ld_rptr ty67)) ∧ (type_of% (fvF_some ty67)) := ⟨ty67, td_of ty67, sz_of ty67, ld_ptr ty67, ld_rptr ty67, fvF_some ty67⟩
theorem ty68 : tyOf prog 68 = some ⟨.st [(0, (67, 1)), (1, (34, 1))], 2, 32, [.nilp, .emp]⟩ := by kernel_rfl
theorem t68 : (type_of% ty68) ∧ (type_of% (td_of ty68)) ∧ (type_of% (sz_of ty68)) ∧ (type_of% (ld_ptr ty68)) ∧ (type_of% (ld_rptr ty68)) ∧ (type_of% (fvF_some ty68)) := ⟨ty68, td_of ty68, sz_of ty68, ld_ptr ty68, ld_rptr ty68, fvF_some ty68⟩
theorem ty69 : tyOf prog 69 = some ⟨.st [(0, (67, 1)), (1, (34, 1))], 2, 32, [.nilp, .emp]⟩ := by kernel_rfl
theorem t69 : (type_of% ty69) ∧ (type_of% (td_of ty69)) ∧ (type_of% (sz_of ty69)) ∧ (type_of% (ld_ptr ty69)) ∧ (type_of% (ld_rptr ty69)) ∧ (type_of% (fvF_some ty69)) := ⟨ty69, td_of ty69, sz_of ty69, ld_ptr ty69, ld_rptr ty69, fvF_some ty69⟩
theorem ty70 : tyOf prog 70 = some ⟨.iface, 1, 16, [.nili]⟩ := by kernel_rfl
theorem t70 : (type_of% ty70) ∧ (type_of% (td_of ty70)) ∧ (type_of% (sz_of ty70)) ∧ (type_of% (ld_ptr ty70)) ∧ (type_of% (ld_rptr ty70)) ∧ (type_of% (fvF_some ty70)) := ⟨ty70, td_of ty70, sz_of ty70, ld_ptr ty70, ld_rptr ty70, fvF_some ty70⟩
theorem ty71 : tyOf prog 71 = some ⟨.iface, 1, 16, [.nili]⟩ := by kernel_rfl
theorem t71 : (type_of% ty71) ∧ (type_of% (td_of ty71)) ∧ (type_of% (sz_of ty71)) ∧ (type_of% (ld_ptr ty71)) ∧ (type_of% (ld_rptr ty71)) ∧ (type_of% (fvF_some ty71)) := ⟨ty71, td_of ty71, sz_of ty71, ld_ptr ty71, ld_rptr ty71, fvF_some ty71⟩
theorem ty78 : tyOf prog 78 = some ⟨.ptr 102, 1, 8, [.nilp]⟩ := by kernel_rfl
theorem t78 : (type_of% ty78) ∧ (type_of% (td_of ty78)) ∧ (type_of% (sz_of ty78)) ∧ (type_of% (ld_ptr ty78)) ∧ (type_of% (ld_rptr ty78)) ∧ (type_of% (fvF_some ty78)) := ⟨ty78, td_of ty78, sz_of ty78, ld_ptr ty78, ld_rptr ty78, fvF_some ty78⟩
theorem ty84 : tyOf prog 84 = some ⟨.sl 9, 1, 24, [.emp]⟩ := by kernel_rfl
theorem t84 : (type_of% ty84) ∧ (type_of% (td_of ty84)) ∧ (type_of% (sz_of ty84)) ∧ (type_of% (ld_ptr ty84)) ∧ (type_of% (ld_rptr ty84)) ∧ (type_of% (fvF_some ty84)) := ⟨ty84, td_of ty84, sz_of ty84, ld_ptr ty84, ld_rptr ty84, fvF_some ty84⟩
theorem ty87 : tyOf prog 87 = some ⟨.sl 3, 1, 24, [.emp]⟩ := by kernel_rfl
theorem t87 : (type_of% ty87) ∧ (type_of% (td_of ty87)) ∧ (type_of% (sz_of ty87)) ∧ (type_of% (ld_ptr ty87)) ∧ (type_of% (ld_rptr ty87)) ∧ (type_of% (fvF_some ty87)) := ⟨ty87, td_of ty87, sz_of ty87, ld_ptr ty87, ld_rptr ty87, fvF_some ty87⟩
theorem ty99 : tyOf prog 99 = some ⟨.int .u64, 1, 8, [.i .u64 0]⟩ := by kernel_rfl
theorem t99 : (type_of% ty99) ∧ (type_of% (td_of ty99)) ∧ (type_of% (sz_of ty99)) ∧ (type_of% (ld_ptr ty99)) ∧ (type_of% (ld_rptr ty99)) ∧ (type_of% (fvF_some ty99)) := ⟨ty99, td_of ty99, sz_of ty99, ld_ptr ty99, ld_rptr ty99, fvF_some ty99⟩
theorem ty100 : tyOf prog 100 = some ⟨.ptr 5, 1, 8, [.nilp]⟩ := by kernel_rfl
theorem t100 : (type_of% ty100) ∧ (type_of% (td_of ty100)) ∧ (type_of% (sz_of ty100)) ∧ (type_of% (ld_ptr ty100)) ∧ (type_of% (ld_rptr ty100)) ∧ (type_of% (fvF_some ty100)) := ⟨ty100, td_of ty100, sz_of ty100, ld_ptr ty100, ld_rptr ty100, fvF_some ty100⟩
theorem ty101 : tyOf prog 101 = some ⟨.st [(0, (34, 1)), (1, (3, 1))], 2, 32, [.emp, .i .i64 0]⟩ := by kernel_rfl
theorem t101 : (type_of% ty101) ∧ (type_of% (td_of ty101)) ∧ (type_of% (sz_of ty101)) ∧ (type_of% (ld_ptr ty101)) ∧ (type_of% (ld_rptr ty101)) ∧ (type_of% (fvF_some ty101)) := ⟨ty101, td_of ty101, sz_of ty101, ld_ptr ty101, ld_rptr ty101, fvF_some ty101⟩
theorem ty102 : tyOf prog 102 = some ⟨.st [(0, (34, 1)), (1, (3, 1))], 2, 32, [.emp, .i .i64 0]⟩ := by kernel_rfl
theorem t102 : (type_of% ty102) ∧ (type_of% (td_of ty102)) ∧ (type_of% (sz_of ty102)) ∧ (type_of% (ld_ptr ty102)) ∧ (type_of% (ld_rptr ty102)) ∧ (type_of% (fvF_some ty102)) := ⟨ty102, td_of ty102, sz_of ty102, ld_ptr ty102, ld_rptr ty102, fvF_some ty102⟩
theorem ty113 : tyOf prog 113 = some ⟨.int .u32, 1, 4, [.i .u32 0]⟩ := by kernel_rfl
theorem t113 : (type_of% ty113) ∧ (type_of% (td_of ty113)) ∧ (type_of% (sz_of ty113)) ∧ (type_of% (ld_ptr ty113)) ∧ (type_of% (ld_rptr ty113)) ∧ (type_of% (fvF_some ty113)) := ⟨ty113, td_of ty113, sz_of ty113, ld_ptr ty113, ld_rptr ty113, fvF_some ty113⟩
theorem ty116 : tyOf prog 116 = some ⟨.int .u64, 1, 8, [.i .u64 0]⟩ := by kernel_rfl
theorem t116 : (type_of% ty116) ∧ (type_of% (td_of ty116)) ∧ (type_of% (sz_of ty116)) ∧ (type_of% (ld_ptr ty116)) ∧ (type_of% (ld_rptr ty116)) ∧ (type_of% (fvF_some ty116)) := ⟨ty116, td_of ty116, sz_of ty116, ld_ptr ty116, ld_rptr ty116, fvF_some ty116⟩
theorem ty123 : tyOf prog 123 = some ⟨.st [(0, (17, 1)), (1, (17, 1)), (2, (17, 1)), (3, (9, 1))], 4, 40, [.nilp, .nilp, .nilp, .str []]⟩ := by kernel_rfl
theorem t123 : (type_of% ty123) ∧ (type_of% (td_of ty123)) ∧ (type_of% (sz_of ty123)) ∧ (type_of% (ld_ptr ty123)) ∧ (type_of% (ld_rptr ty123)) ∧ (type_of% (fvF_some ty123)) := ⟨ty123, td_of ty123, sz_of ty123, ld_ptr ty123, ld_rptr ty123, fvF_some ty123⟩
theorem ty124 : tyOf prog 124 = some ⟨.st [(0, (17, 1)), (1, (17, 1)), (2, (17, 1)), (3, (9, 1))], 4, 40, [.nilp, .nilp, .nilp, .str []]⟩ := by kernel_rfl
theorem t124 : (type_of% ty124) ∧ (type_of% (td_of ty124)) ∧ (type_of% (sz_of ty124)) ∧ (type_of% (ld_ptr ty124)) ∧ (type_of% (ld_rptr ty124)) ∧ (type_of% (fvF_some ty124)) := ⟨ty124, td_of ty124, sz_of ty124, ld_ptr ty124, ld_rptr ty124, fvF_some ty124⟩
theorem ty125 : tyOf prog 125 = some ⟨.arr 0 16, 0, 0, []⟩ := by kernel_rfl
theorem t125 : (type_of% ty125) ∧ (type_of% (td_of ty125)) ∧ (type_of% (sz_of ty125)) ∧ (type_of% (ld_ptr ty125)) ∧ (type_of% (ld_rptr ty125)) ∧ (type_of% (fvF_some ty125)) := ⟨ty125, td_of ty125, sz_of ty125, ld_ptr ty125, ld_rptr ty125, fvF_some ty125⟩
theorem ty126 : tyOf prog 126 = some ⟨.st [(0, (125, 0))], 0, 0, []⟩ := by kernel_rfl
theorem t126 : (type_of% ty126) ∧ (type_of% (td_of ty126)) ∧ (type_of% (sz_of ty126)) ∧ (type_of% (ld_ptr ty126)) ∧ (type_of% (ld_rptr ty126)) ∧ (type_of% (fvF_some ty126)) := ⟨ty126, td_of ty126, sz_of ty126, ld_ptr ty126, ld_rptr ty126, fvF_some ty126⟩
theorem ty127 : tyOf prog 127 = some ⟨.st [(0, (125, 0))], 0, 0, []⟩ := by kernel_rfl
theorem t127 : (type_of% ty127) ∧ (type_of% (td_of ty127)) ∧ (type_of% (sz_of ty127)) ∧ (type_of% (ld_ptr ty127)) ∧ (type_of% (ld_rptr ty127)) ∧ (type_of% (fvF_some ty127)) := ⟨ty127, td_of ty127, sz_of ty127, ld_ptr ty127, ld_rptr ty127, fvF_some ty127⟩
theorem ty128 : tyOf prog 128 = some ⟨.int .u8, 1, 1, [.i .u8 0]⟩ := by kernel_rfl
theorem t128 : (type_of% ty128) ∧ (type_of% (td_of ty128)) ∧ (type_of% (sz_of ty128)) ∧ (type_of% (ld_ptr ty128)) ∧ (type_of% (ld_rptr ty128)) ∧ (type_of% (fvF_some ty128)) := ⟨ty128, td_of ty128, sz_of ty128, ld_ptr ty128, ld_rptr ty128, fvF_some ty128⟩
theorem ty129 : tyOf prog 129 = some ⟨.int .u8, 1, 1, [.i .u8 0]⟩ := by kernel_rfl
theorem t129 : (type_of% ty129) ∧ (type_of% (td_of ty129)) ∧ (type_of% (sz_of ty129)) ∧ (type_of% (ld_ptr ty129)) ∧ (type_of% (ld_rptr ty129)) ∧ (type_of% (fvF_some ty129)) := ⟨ty129, td_of ty129, sz_of ty129, ld_ptr ty129, ld_rptr ty129, fvF_some ty129⟩
theorem ty131 : tyOf prog 131 = some ⟨.int .i32, 1, 4, [.i .i32 0]⟩ := by kernel_rfl
theorem t131 : (type_of% ty131) ∧ (type_of% (td_of ty131)) ∧ (type_of% (sz_of ty131)) ∧ (type_of% (ld_ptr ty131)) ∧ (type_of% (ld_rptr ty131)) ∧ (type_of% (fvF_some ty131)) := ⟨ty131, td_of ty131, sz_of ty131, ld_ptr ty131, ld_rptr ty131, fvF_some ty131⟩
theorem ty132 : tyOf prog 132 = some ⟨.int .i32, 1, 4, [.i .i32 0]⟩ := by kernel_rfl
theorem t132 : (type_of% ty132) ∧ (type_of% (td_of ty132)) ∧ (type_of% (sz_of ty132)) ∧ (type_of% (ld_ptr ty132)) ∧ (type_of% (ld_rptr ty132)) ∧ (type_of% (fvF_some ty132)) := ⟨ty132, td_of ty132, sz_of ty132, ld_ptr ty132, ld_rptr ty132, fvF_some ty132⟩
end Go.V.Try
