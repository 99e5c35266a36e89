/- Step lists. -/
import Derived.Test.YtimhmpdfioihlaaGreatDoorDP
import Derived.Test.YtimhmpdfioihlaaGreatDoorGCB
import Derived.Test.YtimhmpdfioihlaaGreatDoorV4
set_option linter.unusedSimpArgs false
set_option linter.unusedVariables false
set_option maxHeartbeats 12800000
namespace Go.Abs
open Go Go.RowKit
end Go.Abs
namespace Go.Proofs.YtimhmpdfioihlaaGreatDoor
open Go Go.Abs
theorem ZCJ : Zbr Tryz.prog (.int .i64) (.inl 2) := .int (by kernel_rfl)
theorem ZbW : Zbr Tryz.prog (.int .i64) (.inl 3) := .int (by kernel_rfl)
theorem Zwi : Zbr Tryz.prog (.bool) (.inl 4) := .bool (by kernel_rfl)
theorem ZAq : Zbr Tryz.prog (.int .u8) (.inl 5) := .int (by kernel_rfl)
theorem Zp7 : Zbr Tryz.prog (.str) (.inl 9) := .str (by kernel_rfl)
theorem ZD8 : Zbr Tryz.prog (.int .u64) (.inl 12) := .int (by kernel_rfl)
theorem ZD9 : Zbr Tryz.prog (.int .i32) (.inl 21) := .int (by kernel_rfl)
theorem Zfw : Zbr Tryz.prog (.sl (.int .i64)) (.inl 24) := .sl (by kernel_rfl : Go.Program.underlying Tryz.prog 24 = some (.slice 3)) (by kernel_rfl) ZbW
theorem ZAr : Zbr Tryz.prog (.pair (.sl (.int .i64)) (.sl (.int .i64))) (.inl 44) := .st Tryz.underlying44 (.cons (by kernel_rfl) (by kernel_rfl) Zfw (.one (by kernel_rfl) (by kernel_rfl) Zfw))
theorem ZAs : Zbr Tryz.prog (.sl (.pair (.sl (.int .i64)) (.sl (.int .i64)))) (.inl 22) := .sl (by kernel_rfl : Go.Program.underlying Tryz.prog 22 = some (.slice 44)) (by kernel_rfl) ZAr
theorem ZAt : Zbr Tryz.prog (.pair (.str) (.pair (.str) (.int .i64))) (.inl 47) := .st Tryz.underlying47 (.cons (by kernel_rfl) (by kernel_rfl) Zp7 (.cons (by kernel_rfl) (by kernel_rfl) Zp7 (.one (by kernel_rfl) (by kernel_rfl) ZbW)))
theorem ZAu : Zbr Tryz.prog (.sl (.pair (.str) (.pair (.str) (.int .i64)))) (.inl 23) := .sl (by kernel_rfl : Go.Program.underlying Tryz.prog 23 = some (.slice 47)) (by kernel_rfl) ZAt
theorem ZAv : Zbr Tryz.prog (.pair (.int .i64) (.int .i64)) (.inl 77) := .st Tryz.underlying77 (.cons (by kernel_rfl) (by kernel_rfl) ZbW (.one (by kernel_rfl) (by kernel_rfl) ZbW))
theorem Zye : Zbr Tryz.prog (.sl (.pair (.int .i64) (.int .i64))) (.inl 25) := .sl (by kernel_rfl : Go.Program.underlying Tryz.prog 25 = some (.slice 77)) (by kernel_rfl) ZAv
theorem ZlV : Zbr Tryz.prog (.int .u64) (.inl 48) := .int (by kernel_rfl)
theorem ZAw : Zbr Tryz.prog (.pair (.int .i64) (.pair (.int .i64) (.pair (.int .i64) (.pair (.int .u64) (.pair (.int .u64) (.sl (.int .i64))))))) (.inl 50) := .st Tryz.underlying50 (.cons (by kernel_rfl) (by kernel_rfl) ZbW (.cons (by kernel_rfl) (by kernel_rfl) ZbW (.cons (by kernel_rfl) (by kernel_rfl) ZbW (.cons (by kernel_rfl) (by kernel_rfl) ZlV (.cons (by kernel_rfl) (by kernel_rfl) ZlV (.one (by kernel_rfl) (by kernel_rfl) Zfw))))))
theorem Zo5 : Zbr Tryz.prog (.sl (.pair (.int .i64) (.pair (.int .i64) (.pair (.int .i64) (.pair (.int .u64) (.pair (.int .u64) (.sl (.int .i64)))))))) (.inl 51) := .sl (by kernel_rfl : Go.Program.underlying Tryz.prog 51 = some (.slice 50)) (by kernel_rfl) ZAw
theorem ZAx : Zbr Tryz.prog (.pair (.int .i64) (.pair (.bool) (.sl (.pair (.int .i64) (.pair (.int .i64) (.pair (.int .i64) (.pair (.int .u64) (.pair (.int .u64) (.sl (.int .i64)))))))))) (.inl 82) := .st Tryz.underlying82 (.cons (by kernel_rfl) (by kernel_rfl) ZbW (.cons (by kernel_rfl) (by kernel_rfl) Zwi (.one (by kernel_rfl) (by kernel_rfl) Zo5)))
theorem ZAy : Zbr Tryz.prog (.sl (.pair (.int .i64) (.pair (.bool) (.sl (.pair (.int .i64) (.pair (.int .i64) (.pair (.int .i64) (.pair (.int .u64) (.pair (.int .u64) (.sl (.int .i64))))))))))) (.inl 26) := .sl (by kernel_rfl : Go.Program.underlying Tryz.prog 26 = some (.slice 82)) (by kernel_rfl) ZAx
theorem ZAz : Zbr Tryz.prog (.pair (.str) (.pair (.int .i64) (.int .i64))) (.inl 55) := .st Tryz.underlying55 (.cons (by kernel_rfl) (by kernel_rfl) Zp7 (.cons (by kernel_rfl) (by kernel_rfl) ZbW (.one (by kernel_rfl) (by kernel_rfl) ZbW)))
theorem ZAA : Zbr Tryz.prog (.sl (.pair (.str) (.pair (.int .i64) (.int .i64)))) (.inl 27) := .sl (by kernel_rfl : Go.Program.underlying Tryz.prog 27 = some (.slice 55)) (by kernel_rfl) ZAz
theorem ZAB : Zbr Tryz.prog (.pair (.sl (.pair (.int .i64) (.pair (.int .i64) (.pair (.int .i64) (.pair (.int .u64) (.pair (.int .u64) (.sl (.int .i64)))))))) (.sl (.int .i64))) (.inl 57) := .st Tryz.underlying57 (.cons (by kernel_rfl) (by kernel_rfl) Zo5 (.one (by kernel_rfl) (by kernel_rfl) Zfw))
theorem ZAC : Zbr Tryz.prog (.sl (.pair (.sl (.pair (.int .i64) (.pair (.int .i64) (.pair (.int .i64) (.pair (.int .u64) (.pair (.int .u64) (.sl (.int .i64)))))))) (.sl (.int .i64)))) (.inl 28) := .sl (by kernel_rfl : Go.Program.underlying Tryz.prog 28 = some (.slice 57)) (by kernel_rfl) ZAB
theorem ZAD : Zbr Tryz.prog (.pair (.sl (.int .i64)) (.sl (.pair (.int .i64) (.pair (.int .i64) (.pair (.int .i64) (.pair (.int .u64) (.pair (.int .u64) (.sl (.int .i64))))))))) (.inl 53) := .st Tryz.underlying53 (.cons (by kernel_rfl) (by kernel_rfl) Zfw (.one (by kernel_rfl) (by kernel_rfl) Zo5))
theorem ZAE : Zbr Tryz.prog (.sl (.pair (.sl (.int .i64)) (.sl (.pair (.int .i64) (.pair (.int .i64) (.pair (.int .i64) (.pair (.int .u64) (.pair (.int .u64) (.sl (.int .i64)))))))))) (.inl 29) := .sl (by kernel_rfl : Go.Program.underlying Tryz.prog 29 = some (.slice 53)) (by kernel_rfl) ZAD
theorem Zho : Zbr Tryz.prog (.sl (.int .u8)) (.inl 34) := .sl (by kernel_rfl : Go.Program.underlying Tryz.prog 34 = some (.slice 5)) (by kernel_rfl) ZAq
theorem ZAF : Zbr Tryz.prog (.pair (.sl (.pair (.int .i64) (.pair (.int .i64) (.pair (.int .i64) (.pair (.int .u64) (.pair (.int .u64) (.sl (.int .i64)))))))) (.sl (.int .u8))) (.inl 59) := .st Tryz.underlying59 (.cons (by kernel_rfl) (by kernel_rfl) Zo5 (.one (by kernel_rfl) (by kernel_rfl) Zho))
theorem ZAG : Zbr Tryz.prog (.sl (.pair (.sl (.pair (.int .i64) (.pair (.int .i64) (.pair (.int .i64) (.pair (.int .u64) (.pair (.int .u64) (.sl (.int .i64)))))))) (.sl (.int .u8)))) (.inl 30) := .sl (by kernel_rfl : Go.Program.underlying Tryz.prog 30 = some (.slice 59)) (by kernel_rfl) ZAF
theorem ZEa : Zbr Tryz.prog (.pair (.sl (.pair (.sl (.int .i64)) (.sl (.int .i64)))) (.pair (.sl (.pair (.str) (.pair (.str) (.int .i64)))) (.pair (.sl (.int .i64)) (.pair (.sl (.pair (.int .i64) (.int .i64))) (.pair (.sl (.pair (.int .i64) (.int .i64))) (.pair (.sl (.pair (.int .i64) (.pair (.bool) (.sl (.pair (.int .i64) (.pair (.int .i64) (.pair (.int .i64) (.pair (.int .u64) (.pair (.int .u64) (.sl (.int .i64))))))))))) (.pair (.sl (.pair (.str) (.pair (.int .i64) (.int .i64)))) (.pair (.int .i64) (.pair (.sl (.pair (.sl (.pair (.int .i64) (.pair (.int .i64) (.pair (.int .i64) (.pair (.int .u64) (.pair (.int .u64) (.sl (.int .i64)))))))) (.sl (.int .i64)))) (.pair (.sl (.pair (.sl (.int .i64)) (.sl (.pair (.int .i64) (.pair (.int .i64) (.pair (.int .i64) (.pair (.int .u64) (.pair (.int .u64) (.sl (.int .i64)))))))))) (.sl (.pair (.sl (.pair (.int .i64) (.pair (.int .i64) (.pair (.int .i64) (.pair (.int .u64) (.pair (.int .u64) (.sl (.int .i64)))))))) (.sl (.int .u8)))))))))))))) (.inl 32) := .st Tryz.underlying32 (.cons (by kernel_rfl) (by kernel_rfl) ZAs (.cons (by kernel_rfl) (by kernel_rfl) ZAu (.cons (by kernel_rfl) (by kernel_rfl) Zfw (.cons (by kernel_rfl) (by kernel_rfl) Zye (.cons (by kernel_rfl) (by kernel_rfl) Zye (.cons (by kernel_rfl) (by kernel_rfl) ZAy (.cons (by kernel_rfl) (by kernel_rfl) ZAA (.cons (by kernel_rfl) (by kernel_rfl) ZbW (.cons (by kernel_rfl) (by kernel_rfl) ZAC (.cons (by kernel_rfl) (by kernel_rfl) ZAE (.one (by kernel_rfl) (by kernel_rfl) ZAG)))))))))))
theorem ZlW : Zbr Tryz.prog (.int .i64) (.inl 35) := .int (by kernel_rfl)
theorem ZEb : Zbr Tryz.prog (.pair (.sl (.int .u8)) (.bool)) (.inl 63) := .st Tryz.underlying63 (.cons (by kernel_rfl) (by kernel_rfl) Zho (.one (by kernel_rfl) (by kernel_rfl) Zwi))
theorem ZEc : Zbr Tryz.prog (.pair (.sl (.int .u8)) (.bool)) (.inl 64) := .st Tryz.underlying64 (.cons (by kernel_rfl) (by kernel_rfl) Zho (.one (by kernel_rfl) (by kernel_rfl) Zwi))
theorem ZEd : Zbr Tryz.prog (.int .i64) (.inl 95) := .st Tryz.underlying95 (.one (by kernel_rfl) (by kernel_rfl) ZlW)
theorem ZEe : Zbr Tryz.prog (.int .i64) (.inl 96) := .st Tryz.underlying96 (.one (by kernel_rfl) (by kernel_rfl) ZlW)
theorem ZEf : Zbr Tryz.prog (.pair (.sl (.int .u8)) (.pair (.int .i64) (.int .i64))) (.inl 99) := .st Tryz.underlying99 (.cons (by kernel_rfl) (by kernel_rfl) Zho (.cons (by kernel_rfl) (by kernel_rfl) ZbW (.one (by kernel_rfl) (by kernel_rfl) ZbW)))
theorem ZCK : Zbr Tryz.prog (.pair (.sl (.int .u8)) (.pair (.int .i64) (.int .i64))) (.inl 100) := .st Tryz.underlying100 (.cons (by kernel_rfl) (by kernel_rfl) Zho (.cons (by kernel_rfl) (by kernel_rfl) ZbW (.one (by kernel_rfl) (by kernel_rfl) ZbW)))
theorem ZCL : Zbr Tryz.prog (.pair (.sl (.int .u8)) (.pair (.int .i64) (.pair (.int .i64) (.int .i64)))) (.inl 142) := .st Tryz.underlying142 (.cons (by kernel_rfl) (by kernel_rfl) Zho (.cons (by kernel_rfl) (by kernel_rfl) ZbW (.cons (by kernel_rfl) (by kernel_rfl) ZbW (.one (by kernel_rfl) (by kernel_rfl) ZlW))))
theorem ZCM : Zbr Tryz.prog (.sl (.int .u64)) (.inl 147) := .sl (by kernel_rfl : Go.Program.underlying Tryz.prog 147 = some (.slice 48)) (by kernel_rfl) ZlV
theorem ZCN : Zbr Tryz.prog (.int .u64) (.inl 148) := .int (by kernel_rfl)
theorem ZCO : Zbr Tryz.prog (.pair (.int .i64) (.pair (.int .i64) (.pair (.bool) (.pair (.sl (.int .i64)) (.sl (.int .i64)))))) (.inl 169) := .st Tryz.underlying169 (.cons (by kernel_rfl) (by kernel_rfl) ZbW (.cons (by kernel_rfl) (by kernel_rfl) ZbW (.cons (by kernel_rfl) (by kernel_rfl) Zwi (.cons (by kernel_rfl) (by kernel_rfl) Zfw (.one (by kernel_rfl) (by kernel_rfl) Zfw)))))
theorem ZyP : Zbr Tryz.prog (.pair (.int .i64) (.pair (.int .i64) (.pair (.int .i64) (.pair (.int .i64) (.str))))) (.inl 182) := .st Tryz.underlying182 (.cons (by kernel_rfl) (by kernel_rfl) ZbW (.cons (by kernel_rfl) (by kernel_rfl) ZbW (.cons (by kernel_rfl) (by kernel_rfl) ZbW (.cons (by kernel_rfl) (by kernel_rfl) ZbW (.one (by kernel_rfl) (by kernel_rfl) Zp7)))))
theorem ZCP : Zbr Tryz.prog (.sl (.pair (.int .i64) (.pair (.int .i64) (.pair (.int .i64) (.pair (.int .i64) (.str)))))) (.inl 179) := .sl (by kernel_rfl : Go.Program.underlying Tryz.prog 179 = some (.slice 182)) (by kernel_rfl) ZyP
theorem ZCQ : Zbr Tryz.prog (.pair (.int .i64) (.pair (.int .i64) (.pair (.int .i64) (.pair (.int .i64) (.str))))) (.inl 181) := .st Tryz.underlying181 (.cons (by kernel_rfl) (by kernel_rfl) ZbW (.cons (by kernel_rfl) (by kernel_rfl) ZbW (.cons (by kernel_rfl) (by kernel_rfl) ZbW (.cons (by kernel_rfl) (by kernel_rfl) ZbW (.one (by kernel_rfl) (by kernel_rfl) Zp7)))))
theorem ZCR : Zbr Tryz.prog (.sl (.int .i64)) (.inl 183) := .sl (by kernel_rfl : Go.Program.underlying Tryz.prog 183 = some (.slice 2)) (by kernel_rfl) ZCJ
theorem ZCS : Zbr Tryz.prog (.arr 16 (.int .u8)) (.inl 185) := .arr (by kernel_rfl : Go.Program.underlying Tryz.prog 185 = some (.array 16 5)) (by kernel_rfl) ZAq
theorem ZCT : Zbr Tryz.prog (.pair (.int .u64) (.int .u64)) (.inl 188) := .st Tryz.underlying188 (.cons (by kernel_rfl) (by kernel_rfl) ZlV (.one (by kernel_rfl) (by kernel_rfl) ZlV))
theorem ZCU : Zbr Tryz.prog (.pair (.sl (.int .u8)) (.pair (.int .i64) (.pair (.sl (.int .i64)) (.int .i64)))) (.inl 193) := .st Tryz.underlying193 (.cons (by kernel_rfl) (by kernel_rfl) Zho (.cons (by kernel_rfl) (by kernel_rfl) ZbW (.cons (by kernel_rfl) (by kernel_rfl) Zfw (.one (by kernel_rfl) (by kernel_rfl) ZlW))))
theorem ZCV : Zbr Tryz.prog (.pair (.sl (.int .u8)) (.pair (.int .i64) (.pair (.sl (.int .i64)) (.int .i64)))) (.inl 194) := .st Tryz.underlying194 (.cons (by kernel_rfl) (by kernel_rfl) Zho (.cons (by kernel_rfl) (by kernel_rfl) ZbW (.cons (by kernel_rfl) (by kernel_rfl) Zfw (.one (by kernel_rfl) (by kernel_rfl) ZlW))))
theorem ZCW : Zbr Tryz.prog (.sl (.str)) (.inl 209) := .sl (by kernel_rfl : Go.Program.underlying Tryz.prog 209 = some (.slice 9)) (by kernel_rfl) Zp7
theorem ZCX : Zbr Tryz.prog (.int .u32) (.inl 216) := .int (by kernel_rfl)
theorem ZCY : Zbr Tryz.prog (.int .i8) (.inl 221) := .int (by kernel_rfl)
end Go.Proofs.YtimhmpdfioihlaaGreatDoor
namespace Go.Proofs.YtimhmpdfioihlaaGreatDoor
set_option maxRecDepth 20000
open Go Go.Abs
def SL : TypeId -> List (Nat × Nat) := fun t => if t = 50 then [(5, 1)] else if t = 194 then [(2, 1)] else if t = 169 then [(3, 1), (4, 1)] else if t = 24 then [(0, 1)] else if t = 53 then [(0, 1)] else []
theorem SLS : SL 2 = [] /\ SL 3 = [] /\ SL 4 = [] /\ SL 5 = [] /\ SL 9 = [] /\ SL 12 = [] /\ SL 20 = [] /\ SL 22 = [] /\ SL 23 = [] /\ SL 24 = [(0, 1)] /\ SL 25 = [] /\ SL 26 = [] /\ SL 27 = [] /\ SL 28 = [] /\ SL 29 = [] /\ SL 30 = [] /\ SL 32 = [] /\ SL 34 = [] /\ SL 35 = [] /\ SL 44 = [] /\ SL 45 = [] /\ SL 47 = [] /\ SL 48 = [] /\ SL 50 = [(5, 1)] /\ SL 51 = [] /\ SL 53 = [(0, 1)] /\ SL 55 = [] /\ SL 57 = [] /\ SL 59 = [] /\ SL 62 = [] /\ SL 64 = [] /\ SL 77 = [] /\ SL 82 = [] /\ SL 96 = [] /\ SL 98 = [] /\ SL 100 = [] /\ SL 140 = [] /\ SL 142 = [] /\ SL 147 = [] /\ SL 148 = [] /\ SL 152 = [] /\ SL 169 = [(3, 1), (4, 1)] /\ SL 179 = [] /\ SL 182 = [] /\ SL 183 = [] /\ SL 185 = [] /\ SL 188 = [] /\ SL 192 = [] /\ SL 194 = [(2, 1)] /\ SL 209 = [] /\ SL 216 = [] /\ SL 221 = [] := ⟨rfl, rfl, rfl, rfl, rfl, rfl, rfl, rfl, rfl, rfl, rfl, rfl, rfl, rfl, rfl, rfl, rfl, rfl, rfl, rfl, rfl, rfl, rfl, rfl, rfl, rfl, rfl, rfl, rfl, rfl, rfl, rfl, rfl, rfl, rfl, rfl, rfl, rfl, rfl, rfl, rfl, rfl, rfl, rfl, rfl, rfl, rfl, rfl, rfl, rfl, rfl, rfl⟩
theorem ZfU : Tryz.prog.follows .mixedOrders = true := by kernel_rfl
abbrev Row := Int × Int × Int × Int × List UInt8
def Zdb : List Row := [(0, 0, 1, 0, []), (1, 1, 1, 0, [58]), (2, 4, 2, 0, []), (5, 5, 1, 0, []), (11, 11, 1, 0, []), (12, 13, 3, 0, []), (14, 14, 4, 0, []), (15, 15, 1, 0, []), (16, 16, 5, 0, []), (17, 17, 6, 0, []), (26, 27, 1, 0, []), (32, 36, 5, 0, []), (40, 40, 7, 2, [105, 58, 105]), (41, 41, 7, 3, [105, 58, 108]), (44, 45, 7, 0, [105, 58, 105]), (46, 47, 7, 1, [105, 58, 105]), (48, 49, 7, 0, [105, 58, 108]), (50, 51, 7, 1, [105, 58, 108]), (52, 53, 7, 2, [105, 58, 108]), (54, 54, 7, 2, [105, 105, 58]), (55, 55, 7, 3, [105, 108, 58]), (58, 58, 7, 0, [105, 105, 58]), (59, 59, 7, 1, [105, 105, 58]), (60, 60, 7, 0, [105, 108, 58]), (61, 61, 7, 1, [105, 108, 58]), (62, 62, 7, 2, [105, 108, 58]), (63, 63, 14, 0, [58, 105]), (64, 64, 14, 0, [105, 58, 105]), (65, 65, 9, 0, [58, 105]), (66, 66, 10, 0, [58, 108]), (69, 69, 1, 0, [105, 58, 105]), (70, 79, 1, 0, [105, 105, 58, 105]), (80, 80, 1, 0, [108, 58, 105]), (81, 90, 1, 0, [108, 108, 58, 105]), (103, 105, 1, 0, [105, 58, 105]), (106, 120, 1, 0, [105, 105, 58, 105]), (121, 123, 1, 0, [108, 58, 108]), (124, 138, 1, 0, [108, 108, 58, 108]), (167, 167, 1, 0, [108, 58, 105]), (172, 173, 1, 0, [105, 58, 108]), (192, 193, 1, 0, [105, 58, 105]), (194, 196, 1, 0, [108, 58, 108])]
def Zd0 : List Row := [(64768, 64768, 7, 4, [105, 58, 118]), (64769, 64774, 7, 3, [105, 58, 118]), (64775, 64775, 7, 0, [105, 58, 118]), (64776, 64776, 7, 1, [105, 58, 118]), (64777, 64777, 7, 2, [105, 58, 118]), (64778, 64778, 7, 3, [105, 58, 118]), (64779, 64779, 7, 4, [105, 118, 58]), (64780, 64780, 11, 0, [58, 118]), (64781, 64781, 12, 0, [118, 118, 58, 118]), (64782, 64782, 1, 0, [118, 118, 58, 118]), (64783, 64785, 1, 0, [105, 58, 118]), (64786, 64786, 1, 0, [108, 58, 118]), (64789, 64790, 13, 16, [118, 58, 105]), (64791, 64791, 13, 16, [118, 105, 58, 118]), (64792, 64793, 13, 8, [118, 58, 105]), (64794, 64794, 13, 8, [118, 105, 58, 118]), (64795, 64795, 13, 4, [118, 58, 105]), (64796, 64796, 13, 4, [118, 105, 58, 118]), (64797, 64797, 13, 2, [118, 58, 108]), (64798, 64798, 13, 2, [118, 108, 58, 118]), (64803, 64832, 1, 0, [118, 118, 58, 118]), (64845, 64845, 1, 0, [118, 58, 118]), (64846, 64849, 1, 0, [118, 118, 58, 118]), (64850, 64850, 1, 0, [118, 118, 118, 58, 118]), (64851, 64851, 1, 0, [118, 58, 105]), (64852, 64852, 8, 0, [105, 118, 58, 118]), (64853, 64853, 8, 1, [105, 118, 58, 118]), (64854, 64854, 8, 2, [105, 118, 58, 118]), (64855, 64855, 8, 3, [105, 118, 58, 118]), (64856, 64856, 8, 0, [105, 118, 58]), (64857, 64857, 8, 1, [105, 118, 58]), (64858, 64858, 8, 2, [105, 118, 58]), (64859, 64859, 8, 3, [105, 118, 58]), (64860, 64860, 7, 2, [105, 58, 118]), (64861, 64861, 7, 3, [105, 58, 118]), (64864, 64866, 1, 0, [118, 58, 118]), (64867, 64868, 1, 0, [118, 58, 105]), (64869, 64870, 1, 0, [118, 118, 58, 118]), (64875, 64877, 1, 0, [118, 105, 58, 118]), (64878, 64883, 1, 0, [118, 118, 58, 118]), (64886, 64889, 1, 0, [118, 118, 58, 118]), (64891, 64891, 1, 0, [118, 118, 58, 118]), (64892, 64897, 1, 0, [118, 58, 118]), (64898, 64898, 1, 0, [118, 118, 58, 118]), (64899, 64900, 1, 0, [118, 58, 105]), (64901, 64902, 1, 0, [118, 118, 58, 118]), (64903, 64906, 1, 0, [118, 58, 118]), (64907, 64909, 1, 0, [118, 105, 58, 118]), (64910, 64915, 1, 0, [118, 118, 58, 118]), (64917, 64921, 1, 0, [118, 118, 58, 118]), (64923, 64927, 1, 0, [118, 118, 58, 118]), (64928, 64929, 1, 0, [118, 58, 118]), (64931, 64932, 1, 0, [118, 58, 105]), (64935, 64938, 1, 0, [118, 58, 118]), (64939, 64941, 1, 0, [118, 105, 58, 118]), (64942, 64942, 1, 0, [118, 118, 58, 118]), (64945, 64945, 1, 0, [118, 118, 58, 118]), (64949, 64954, 1, 0, [118, 118, 58, 118]), (64956, 64959, 1, 0, [118, 118, 58, 118]), (64960, 64961, 1, 0, [118, 58, 118]), (64963, 64964, 1, 0, [118, 58, 105]), (64967, 64970, 1, 0, [118, 58, 118]), (64971, 64973, 1, 0, [118, 105, 58, 118]), (64974, 64974, 1, 0, [118, 118, 58, 118]), (64977, 64977, 1, 0, [118, 118, 58, 118]), (64981, 64991, 1, 0, [118, 118, 58, 118])]
def ZlX : List (List UInt8) := [[48, 32, 48, 32, 49, 32, 48, 32, 45], [49, 32, 49, 32, 49, 32, 48, 32, 58], [50, 32, 52, 32, 50, 32, 48, 32, 45], [53, 32, 53, 32, 49, 32, 48, 32, 45], [98, 32, 98, 32, 49, 32, 48, 32, 45], [99, 32, 100, 32, 51, 32, 48, 32, 45], [101, 32, 101, 32, 52, 32, 48, 32, 45], [102, 32, 102, 32, 49, 32, 48, 32, 45], [49, 48, 32, 49, 48, 32, 53, 32, 48, 32, 45], [49, 49, 32, 49, 49, 32, 54, 32, 48, 32, 45], [49, 97, 32, 49, 98, 32, 49, 32, 48, 32, 45], [50, 48, 32, 50, 52, 32, 53, 32, 48, 32, 45], [50, 56, 32, 50, 56, 32, 55, 32, 50, 32, 105, 58, 105], [50, 57, 32, 50, 57, 32, 55, 32, 51, 32, 105, 58, 108], [50, 99, 32, 50, 100, 32, 55, 32, 48, 32, 105, 58, 105], [50, 101, 32, 50, 102, 32, 55, 32, 49, 32, 105, 58, 105], [51, 48, 32, 51, 49, 32, 55, 32, 48, 32, 105, 58, 108], [51, 50, 32, 51, 51, 32, 55, 32, 49, 32, 105, 58, 108], [51, 52, 32, 51, 53, 32, 55, 32, 50, 32, 105, 58, 108], [51, 54, 32, 51, 54, 32, 55, 32, 50, 32, 105, 105, 58], [51, 55, 32, 51, 55, 32, 55, 32, 51, 32, 105, 108, 58], [51, 97, 32, 51, 97, 32, 55, 32, 48, 32, 105, 105, 58], [51, 98, 32, 51, 98, 32, 55, 32, 49, 32, 105, 105, 58], [51, 99, 32, 51, 99, 32, 55, 32, 48, 32, 105, 108, 58], [51, 100, 32, 51, 100, 32, 55, 32, 49, 32, 105, 108, 58], [51, 101, 32, 51, 101, 32, 55, 32, 50, 32, 105, 108, 58], [51, 102, 32, 51, 102, 32, 49, 52, 32, 48, 32, 58, 105], [52, 48, 32, 52, 48, 32, 49, 52, 32, 48, 32, 105, 58, 105], [52, 49, 32, 52, 49, 32, 57, 32, 48, 32, 58, 105], [52, 50, 32, 52, 50, 32, 49, 48, 32, 48, 32, 58, 108], [52, 53, 32, 52, 53, 32, 49, 32, 48, 32, 105, 58, 105], [52, 54, 32, 52, 102, 32, 49, 32, 48, 32, 105, 105, 58, 105], [53, 48, 32, 53, 48, 32, 49, 32, 48, 32, 108, 58, 105], [53, 49, 32, 53, 97, 32, 49, 32, 48, 32, 108, 108, 58, 105], [54, 55, 32, 54, 57, 32, 49, 32, 48, 32, 105, 58, 105], [54, 97, 32, 55, 56, 32, 49, 32, 48, 32, 105, 105, 58, 105], [55, 57, 32, 55, 98, 32, 49, 32, 48, 32, 108, 58, 108], [55, 99, 32, 56, 97, 32, 49, 32, 48, 32, 108, 108, 58, 108], [97, 55, 32, 97, 55, 32, 49, 32, 48, 32, 108, 58, 105], [97, 99, 32, 97, 100, 32, 49, 32, 48, 32, 105, 58, 108], [99, 48, 32, 99, 49, 32, 49, 32, 48, 32, 105, 58, 105], [99, 50, 32, 99, 52, 32, 49, 32, 48, 32, 108, 58, 108], [102, 100, 48, 48, 32, 102, 100, 48, 48, 32, 55, 32, 52, 32, 105, 58, 118], [102, 100, 48, 49, 32, 102, 100, 48, 54, 32, 55, 32, 51, 32, 105, 58, 118], [102, 100, 48, 55, 32, 102, 100, 48, 55, 32, 55, 32, 48, 32, 105, 58, 118], [102, 100, 48, 56, 32, 102, 100, 48, 56, 32, 55, 32, 49, 32, 105, 58, 118], [102, 100, 48, 57, 32, 102, 100, 48, 57, 32, 55, 32, 50, 32, 105, 58, 118], [102, 100, 48, 97, 32, 102, 100, 48, 97, 32, 55, 32, 51, 32, 105, 58, 118], [102, 100, 48, 98, 32, 102, 100, 48, 98, 32, 55, 32, 52, 32, 105, 118, 58], [102, 100, 48, 99, 32, 102, 100, 48, 99, 32, 49, 49, 32, 48, 32, 58, 118], [102, 100, 48, 100, 32, 102, 100, 48, 100, 32, 49, 50, 32, 48, 32, 118, 118, 58, 118], [102, 100, 48, 101, 32, 102, 100, 48, 101, 32, 49, 32, 48, 32, 118, 118, 58, 118], [102, 100, 48, 102, 32, 102, 100, 49, 49, 32, 49, 32, 48, 32, 105, 58, 118], [102, 100, 49, 50, 32, 102, 100, 49, 50, 32, 49, 32, 48, 32, 108, 58, 118], [102, 100, 49, 53, 32, 102, 100, 49, 54, 32, 49, 51, 32, 49, 54, 32, 118, 58, 105], [102, 100, 49, 55, 32, 102, 100, 49, 55, 32, 49, 51, 32, 49, 54, 32, 118, 105, 58, 118], [102, 100, 49, 56, 32, 102, 100, 49, 57, 32, 49, 51, 32, 56, 32, 118, 58, 105], [102, 100, 49, 97, 32, 102, 100, 49, 97, 32, 49, 51, 32, 56, 32, 118, 105, 58, 118], [102, 100, 49, 98, 32, 102, 100, 49, 98, 32, 49, 51, 32, 52, 32, 118, 58, 105], [102, 100, 49, 99, 32, 102, 100, 49, 99, 32, 49, 51, 32, 52, 32, 118, 105, 58, 118], [102, 100, 49, 100, 32, 102, 100, 49, 100, 32, 49, 51, 32, 50, 32, 118, 58, 108], [102, 100, 49, 101, 32, 102, 100, 49, 101, 32, 49, 51, 32, 50, 32, 118, 108, 58, 118], [102, 100, 50, 51, 32, 102, 100, 52, 48, 32, 49, 32, 48, 32, 118, 118, 58, 118], [102, 100, 52, 100, 32, 102, 100, 52, 100, 32, 49, 32, 48, 32, 118, 58, 118], [102, 100, 52, 101, 32, 102, 100, 53, 49, 32, 49, 32, 48, 32, 118, 118, 58, 118], [102, 100, 53, 50, 32, 102, 100, 53, 50, 32, 49, 32, 48, 32, 118, 118, 118, 58, 118], [102, 100, 53, 51, 32, 102, 100, 53, 51, 32, 49, 32, 48, 32, 118, 58, 105], [102, 100, 53, 52, 32, 102, 100, 53, 52, 32, 56, 32, 48, 32, 105, 118, 58, 118], [102, 100, 53, 53, 32, 102, 100, 53, 53, 32, 56, 32, 49, 32, 105, 118, 58, 118], [102, 100, 53, 54, 32, 102, 100, 53, 54, 32, 56, 32, 50, 32, 105, 118, 58, 118], [102, 100, 53, 55, 32, 102, 100, 53, 55, 32, 56, 32, 51, 32, 105, 118, 58, 118], [102, 100, 53, 56, 32, 102, 100, 53, 56, 32, 56, 32, 48, 32, 105, 118, 58], [102, 100, 53, 57, 32, 102, 100, 53, 57, 32, 56, 32, 49, 32, 105, 118, 58], [102, 100, 53, 97, 32, 102, 100, 53, 97, 32, 56, 32, 50, 32, 105, 118, 58], [102, 100, 53, 98, 32, 102, 100, 53, 98, 32, 56, 32, 51, 32, 105, 118, 58], [102, 100, 53, 99, 32, 102, 100, 53, 99, 32, 55, 32, 50, 32, 105, 58, 118], [102, 100, 53, 100, 32, 102, 100, 53, 100, 32, 55, 32, 51, 32, 105, 58, 118], [102, 100, 54, 48, 32, 102, 100, 54, 50, 32, 49, 32, 48, 32, 118, 58, 118], [102, 100, 54, 51, 32, 102, 100, 54, 52, 32, 49, 32, 48, 32, 118, 58, 105], [102, 100, 54, 53, 32, 102, 100, 54, 54, 32, 49, 32, 48, 32, 118, 118, 58, 118], [102, 100, 54, 98, 32, 102, 100, 54, 100, 32, 49, 32, 48, 32, 118, 105, 58, 118], [102, 100, 54, 101, 32, 102, 100, 55, 51, 32, 49, 32, 48, 32, 118, 118, 58, 118], [102, 100, 55, 54, 32, 102, 100, 55, 57, 32, 49, 32, 48, 32, 118, 118, 58, 118], [102, 100, 55, 98, 32, 102, 100, 55, 98, 32, 49, 32, 48, 32, 118, 118, 58, 118], [102, 100, 55, 99, 32, 102, 100, 56, 49, 32, 49, 32, 48, 32, 118, 58, 118], [102, 100, 56, 50, 32, 102, 100, 56, 50, 32, 49, 32, 48, 32, 118, 118, 58, 118], [102, 100, 56, 51, 32, 102, 100, 56, 52, 32, 49, 32, 48, 32, 118, 58, 105], [102, 100, 56, 53, 32, 102, 100, 56, 54, 32, 49, 32, 48, 32, 118, 118, 58, 118], [102, 100, 56, 55, 32, 102, 100, 56, 97, 32, 49, 32, 48, 32, 118, 58, 118], [102, 100, 56, 98, 32, 102, 100, 56, 100, 32, 49, 32, 48, 32, 118, 105, 58, 118], [102, 100, 56, 101, 32, 102, 100, 57, 51, 32, 49, 32, 48, 32, 118, 118, 58, 118], [102, 100, 57, 53, 32, 102, 100, 57, 57, 32, 49, 32, 48, 32, 118, 118, 58, 118], [102, 100, 57, 98, 32, 102, 100, 57, 102, 32, 49, 32, 48, 32, 118, 118, 58, 118], [102, 100, 97, 48, 32, 102, 100, 97, 49, 32, 49, 32, 48, 32, 118, 58, 118], [102, 100, 97, 51, 32, 102, 100, 97, 52, 32, 49, 32, 48, 32, 118, 58, 105], [102, 100, 97, 55, 32, 102, 100, 97, 97, 32, 49, 32, 48, 32, 118, 58, 118], [102, 100, 97, 98, 32, 102, 100, 97, 100, 32, 49, 32, 48, 32, 118, 105, 58, 118], [102, 100, 97, 101, 32, 102, 100, 97, 101, 32, 49, 32, 48, 32, 118, 118, 58, 118], [102, 100, 98, 49, 32, 102, 100, 98, 49, 32, 49, 32, 48, 32, 118, 118, 58, 118], [102, 100, 98, 53, 32, 102, 100, 98, 97, 32, 49, 32, 48, 32, 118, 118, 58, 118], [102, 100, 98, 99, 32, 102, 100, 98, 102, 32, 49, 32, 48, 32, 118, 118, 58, 118], [102, 100, 99, 48, 32, 102, 100, 99, 49, 32, 49, 32, 48, 32, 118, 58, 118], [102, 100, 99, 51, 32, 102, 100, 99, 52, 32, 49, 32, 48, 32, 118, 58, 105], [102, 100, 99, 55, 32, 102, 100, 99, 97, 32, 49, 32, 48, 32, 118, 58, 118], [102, 100, 99, 98, 32, 102, 100, 99, 100, 32, 49, 32, 48, 32, 118, 105, 58, 118], [102, 100, 99, 101, 32, 102, 100, 99, 101, 32, 49, 32, 48, 32, 118, 118, 58, 118], [102, 100, 100, 49, 32, 102, 100, 100, 49, 32, 49, 32, 48, 32, 118, 118, 58, 118], [102, 100, 100, 53, 32, 102, 100, 100, 102, 32, 49, 32, 48, 32, 118, 118, 58, 118]]
def Zje : List Row := Zdb ++ Zd0
def Zz2 (r : Row) : List V := [.int .i64 r.1, .int .i64 r.2.1, .int .i64 r.2.2.1, .int .i64 r.2.2.2.1, .str r.2.2.2.2]
def Zo6 : List Row -> List V
 | [] => []
 | r :: l => Zz2 r ++ Zo6 l
def Zfx : Row := (0, 0, 0, 0, [])
theorem Zo7 (l : List Row) : (Zo6 l).length = l.length * 5 := by
 induction l with
 | nil => rfl
 | cons x l ih => rw [Zo6, Yal, ih, Yag]; show 5 + _ = _; omega
theorem ZlY {l : List Row} {k : Nat} (hk : k < l.length) : (Zo6 l).drop (k * 5) = Zz2 (l.getD k Zfx) ++ Zo6 (l.drop (k + 1)) := by
 induction l generalizing k with
 | nil => exact absurd hk (Nat.not_lt_zero _)
 | cons x l ih =>
   cases k with
   | zero => simp [Zo6]
   | succ k =>
     rw [Zo6, show (k + 1) * 5 = (Zz2 x).length + k * 5 from by show _ = 5 + _; omega, List.drop_append, Ya7 (by omega), List.nil_append, Nat.add_sub_cancel_left, ih (by simpa using hk)]
     simp
theorem Zwj {l : List Row} {k : Nat} (hk : k < l.length) : List.take 5 (List.drop (k * 5) (Zo6 l)) = Zz2 (l.getD k Zfx) := by
 rw [ZlY hk]; rfl
theorem Zwk {l : List Row} {k : Nat} (hk : k < l.length) : 5 <= (List.drop (k * 5) (Zo6 l)).length := by
 rw [ZlY hk, Yal]; show 5 <= 5 + _; omega
def Zd1 (op : Int) : List Row -> Option Row
 | [] => none
 | r :: l => if op < r.1 \/ op > r.2.1 then Zd1 op l else some r
theorem Ztc (op : Int) (a b : List Row) : Zd1 op (a ++ b) = (Zd1 op a).or (Zd1 op b) := by
 induction a with
 | nil => rfl
 | cons r a ih =>
   rw [List.cons_append, Zd1, Zd1]; split
   ·exact ih
   ·rfl
theorem ZiQ (op : Int) {a : List Row} (h : ∀ r ∈ a, op < r.1 \/ op > r.2.1) : Zd1 op a = none := by
 induction a with
 | nil => rfl
 | cons r a ih => rw [Zd1, if_pos (h r (List.mem_cons_self ..)), ih (fun x hx => h x (Yaq _ hx))]
theorem Ztd {op : Int} {a : List Row} {r : Row} (h : Zd1 op a = some r) : r ∈ a /\ r.1 <= op /\ op <= r.2.1 := by
 induction a with
 | nil => cases h
 | cons x a ih =>
   rw [Zd1] at h; split at h
   ·exact ⟨Yaq _ (ih h).1, (ih h).2⟩
   ·cases h; exact ⟨List.mem_cons_self .., by omega, by omega⟩
theorem Zo8 {op : Int} {l : List Row} {k : Nat} (hk : k < l.length) (h : ∀ j, j < k -> op < (l.getD j Zfx).1 \/ op > (l.getD j Zfx).2.1) (h2 : ¬ (op < (l.getD k Zfx).1 \/ op > (l.getD k Zfx).2.1)) : Zd1 op l = some (l.getD k Zfx) := by
 induction l generalizing k with
 | nil => exact absurd hk (Nat.not_lt_zero _)
 | cons r l ih =>
   cases k with
   | zero =>
     have h2 : ¬ (op < r.1 \/ op > r.2.1) := h2
     rw [Zd1, if_neg h2]; rfl
   | succ k =>
     have h0 : op < r.1 \/ op > r.2.1 := h 0 (Nat.succ_pos _)
     rw [Zd1, if_pos h0]
     exact ih (by simpa using hk) (fun j hj => h (j + 1) (by omega)) h2
theorem ZjC {op : Int} {l : List Row} (h : ∀ j, j < l.length -> op < (l.getD j Zfx).1 \/ op > (l.getD j Zfx).2.1) : Zd1 op l = none := by
 apply ZiQ
 intro r hr
 obtain ⟨j, hj, rfl⟩ := List.mem_iff_getElem.1 hr
 have := h j hj
 rw [show l.getD j Zfx = l[j] from by simp [List.getD, hj]] at this
 exact this
def Zwl (c : Int) : Int := if c = 108 then 126 else if c = 118 then 123 else 127
def Zhx (s : List UInt8) : List Int := s.map fun c => (c.toNat : Int)
theorem Zo (s : List UInt8) : (Zhx s).length = s.length := by simp [Zhx]
theorem Zag (s : List UInt8) : s.map Zhs = Zh .u8 (Zhx s) := by simp [Zhx, Zh, Zhs]
theorem ZyQ (s : List UInt8) (k : Nat) : (Zhx s).getD k 0 = ((s.getD k 0).toNat : Int) := by
 simp only [Zhx, Yah, Yas]
 cases s[k]? <;> rfl
abbrev ZCZ := Bool × List Int × List Int
def Zz3 (s : ZCZ) (c : Int) : ZCZ := if c = 58 then (true, s.2.1, s.2.2) else if s.1 = true then (true, s.2.1, s.2.2 ++ [Zwl c]) else (false, s.2.1 ++ [Zwl c], s.2.2)
def ZjD (l : List Int) : ZCZ := l.foldl Zz3 (false, [], [])
theorem ZlZ (l : List Int) (c : Int) : ZjD (l ++ [c]) = Zz3 (ZjD l) c := by unfold ZjD; rw [List.foldl_append]; rfl
theorem Zdo {l : List Int} {k : Nat} (h : k < l.length) : l.take (k + 1) = l.take k ++ [l.getD k 0] := by
 rw [List.take_succ_eq_append_getElem h]; simp [List.getD, h]
theorem Zwm (l : List Int) : (ZjD l).2.1.length + (ZjD l).2.2.length <= l.length := by
 have : ∀ k, k <= l.length -> (ZjD (l.take k)).2.1.length + (ZjD (l.take k)).2.2.length <= k := by
  intro k
  induction k with
  | zero => intro _; simp [ZjD]
  | succ k ih =>
    intro hk
    have := ih (by omega)
    rw [Zdo hk, ZlZ]
    generalize ZjD (l.take k) = z at this
    obtain ⟨o, a, b⟩ := z
    simp only at this
    unfold Zz3
    split
    ·show a.length + b.length <= k + 1; omega
    ·split
     ·show a.length + (b ++ [_]).length <= k + 1
      simp only [Yal, Yag, List.length_nil]; omega
     ·show (a ++ [_]).length + b.length <= k + 1
      simp only [Yal, Yag, List.length_nil]; omega
 have h := this l.length (Nat.le_refl _)
 rw [Yau] at h; exact h
abbrev Znw := Int × Int × Bool × List Int × List Int
def Zl0 (r : Row) : Znw := (r.2.2.1, r.2.2.2.1, !r.2.2.2.2.isEmpty, (ZjD (Zhx r.2.2.2.2)).2.1, (ZjD (Zhx r.2.2.2.2)).2.2)
def Zte (op : Int) : List Row := if op >= 64768 then Zd0 else Zdb
theorem Zwn (op : Int) : Zd1 op (Zte op) = Zd1 op Zje := by
 unfold Zte Zje
 rw [Ztc]
 split
 ·rename_i h
  have hs : Zdb.all (fun r => decide (r.2.1 < 64768)) = true := by decide +kernel
  rw [ZiQ op (a := Zdb)]
  ·rfl
  ·intro r hr
   have := of_decide_eq_true (Yat.1 hs r hr)
   omega
 ·rename_i h
  have hv : Zd0.all (fun r => decide (r.1 >= 64768)) = true := by decide +kernel
  rw [ZiQ op (a := Zd0)]
  ·cases Zd1 op Zdb <;> rfl
  ·intro r hr
   have := of_decide_eq_true (Yat.1 hv r hr)
   omega
def Ztf (i : Znw) : V := .agg [.int .i64 i.1, .int .i64 i.2.1, .bool i.2.2.1, .ref 3003 0 i.2.2.2.1.length 1, .ref 3004 0 i.2.2.2.2.length 1]
def Ztg : Znw := (0, 0, false, [], [])
def ofS (op : Int) : Znw × Bool := match Zd1 op Zje with
 | some r => (Zl0 r, true)
 | none => (Ztg, false)
def Zl1 (l : List (List UInt8)) : List V := l.map .str
theorem Zkw (l : List (List UInt8)) : (Zl1 l).length = l.length := by simp [Zl1]
theorem ZyR {l : List (List UInt8)} {k : Nat} (h : k < l.length) : (Zl1 l).getD k .any = .str (l.getD k []) := by
 simp [Zl1, Yah, Yas, Yab h]
theorem MB.NM : type_of% @NSX /\ type_of% @St.keepS.eq_1 /\ type_of% @TY /\ type_of% @SLS /\ type_of% @Za := ⟨NSX, St.keepS.eq_1, @TY, @SLS, @Za⟩
def uRd (bits : Int) : List Int -> Nat -> Int -> Int -> Int × Int × Int
 | [], _, _, _ => (0, 0, 5)
 | x :: l, done, n, at_ =>
   if (bits - done < 7 /\ (x % 128) / 2 ^ (bits - done).toNat ≠ 0) \/ (bits - done <= 7 /\ x >= 128) then (0, 0, 6)
   else if x < 128 then (n + x % 128 * 2 ^ done, at_ + 1, 0) else uRd bits l (done + 7) (n + x % 128 * 2 ^ done) (at_ + 1)
def ZaM (xs : List Int) (at_ bits : Int) : Int × Int × Int :=
 if bits < 1 \/ bits > 64 \/ at_ < 0 \/ at_ > xs.length then (0, 0, 1) else uRd bits (xs.drop at_.toNat) 0 0 at_
def sx (x : Int) : Int := if x % 128 >= 64 then x % 128 - 128 else x % 128
def ZuS (m : Nat) (v : Int) : Int := if v < 2 ^ (m - 1) then v else v - 2 ^ m
def sRd (bits : Int) : List Int -> Nat -> Int -> Int -> Int × Int × Int
 | [], _, _, _ => (0, 0, 5)
 | x :: l, done, n, at_ =>
   if bits - done <= 7 /\ ((sx x / 2 ^ (bits - done - 1).toNat ≠ 0 /\ sx x / 2 ^ (bits - done - 1).toNat ≠ -1) \/ x >= 128) then (0, 0, 6)
   else if x < 128 then (ZuS (done + 7) (n + x % 128 * 2 ^ done), at_ + 1, 0) else sRd bits l (done + 7) (n + x % 128 * 2 ^ done) (at_ + 1)
def Zad (xs : List Int) (at_ bits : Int) : Int × Int × Int :=
 if bits < 1 \/ bits > 64 \/ at_ < 0 \/ at_ > xs.length then (0, 0, 1) else sRd bits (xs.drop at_.toNat) 0 0 at_
def Zgi (x : Int) : Prop := 0 <= x /\ x <= 255
def bytes (l : List Int) : Prop := ∀ x ∈ l, Zgi x
theorem Zg0 {v low : Int} {s m : Nat} (hv0 : 0 <= v) (hv : v < 2 ^ s) (hl0 : 0 <= low) (hl : low < 2 ^ m) : 0 <= v + low * 2 ^ s /\ v + low * 2 ^ s < 2 ^ (s + m) := by
 have hp : (0 : Int) < 2 ^ s := Int.pow_pos (by decide)
 have h1 : 0 <= low * 2 ^ s := Int.mul_nonneg hl0 (by omega)
 have h2 : (low + 1) * 2 ^ s <= 2 ^ m * 2 ^ s := Int.mul_le_mul_of_nonneg_right (by omega) (by omega)
 rw [Int.add_mul, Int.one_mul] at h2
 rw [Int.pow_add, Int.mul_comm (2 ^ s)]
 omega
theorem Zyf {bits : Int} {k : Nat} {low : Int} (hkb : 7 * (k : Int) < bits) (h0 : 0 <= low) (h1 : low < 128) (hl : bits - 7 * k < 7 -> low / 2 ^ (bits - 7 * k).toNat = 0) : low < 2 ^ (min 7 (bits - 7 * k).toNat) := by
 by_cases h : bits - 7 * k < 7
 ·have := hl h
  rw [Nat.min_eq_right (by omega)]
  have hp : (0 : Int) < 2 ^ (bits - 7 * k).toNat := Int.pow_pos (by decide)
  have h2 := Int.lt_ediv_add_one_mul_self low hp
  rw [this] at h2
  omega
 ·rw [Nat.min_eq_left (by omega)]; exact h1
theorem ZyS {bits : Int} {k : Nat} {v low : Int} (hb : bits <= 64) (hkb : 7 * (k : Int) < bits) (hv0 : 0 <= v) (hv : v < 2 ^ (7 * k)) (h0 : 0 <= low) (h1 : low < 128) (hl : bits - 7 * k < 7 -> low / 2 ^ (bits - 7 * k).toNat = 0) :
 Zu .or .u64 v (IntKind.u64.wrap (low * 2 ^ (7 * k))) = v + low * 2 ^ (7 * k) /\ 0 <= v + low * 2 ^ (7 * k) /\ v + low * 2 ^ (7 * k) < 2 ^ (7 * k + 7) := by
 have hlt := Zyf hkb h0 h1 hl
 have h2 := Zg0 hv0 hv h0 hlt
 have hp : (0 : Int) < 2 ^ (7 * k) := Int.pow_pos (by decide)
 have hn : 0 <= low * 2 ^ (7 * k) := Int.mul_nonneg h0 (by omega)
 have h3 : (2 : Int) ^ (7 * k + min 7 (bits - 7 * k).toNat) <= 2 ^ 64 := by exact_mod_cast Nat.pow_le_pow_right (by decide) (by omega)
 have h4 : (2 : Int) ^ (7 * k + min 7 (bits - 7 * k).toNat) <= 2 ^ (7 * k + 7) := by exact_mod_cast Nat.pow_le_pow_right (by decide) (by omega)
 rw [ZaC (k := .u64) rfl hn (by show _ < (2 : Int) ^ 64; omega)]
 refine ⟨ZlM (k := .u64) (7 * k) hv0 hv h0 (by show _ < (2 : Int) ^ 64; omega) (.inl rfl), h2.1, by omega⟩
theorem ZE2 : ∀ n : Fin 256, (IntKind.i8.wrap (IntKind.u8.wrap ((n.val : Int) * 2 ^ min (Int.toNat 1) IntKind.u8.bits))).fdiv (2 ^ min (Int.toNat 1) IntKind.i8.bits) = sx (n.val : Int) := by decide +kernel
theorem ZC0 {x : Int} (h : Zgi x) : (IntKind.i8.wrap (IntKind.u8.wrap (x * 2 ^ min (Int.toNat 1) IntKind.u8.bits))).fdiv (2 ^ min (Int.toNat 1) IntKind.i8.bits) = sx x := by
 obtain ⟨h0, h1⟩ := h
 have := ZE2 ⟨x.toNat, by omega⟩
 simp only [Int.toNat_of_nonneg h0] at this
 exact this
theorem ZEg (y n : Int) (h : n <= 8) : y.fdiv (2 ^ min n.toNat IntKind.i8.bits) = y / 2 ^ n.toNat := by
 rw [Nat.min_eq_left (by show _ <= 8; omega)]
 exact Int.fdiv_eq_ediv_of_nonneg _ (Int.le_of_lt (Int.pow_pos (by decide)))
theorem Z8 {l : List Int} {k : Nat} (h : k < l.length) : l.getD k 0 ∈ l := by
 rw [Yah, Yab h]; exact List.getElem_mem h
theorem Zcq {l : List Int} {k : Nat} (h : k < l.length) : l.drop k = l.getD k 0 :: l.drop (k + 1) := by
 rw [List.drop_eq_getElem_cons h]; simp [List.getD, h]
def Zg6 : List Int -> Option Nat
 | [] => none
 | c :: l =>
   if c < 128 then some 1
   else if 194 <= c /\ c <= 223 then (if 1 <= l.length /\ 128 <= l.getD 0 0 /\ l.getD 0 0 <= 191 then some 2 else none)
   else if 224 <= c /\ c <= 239 then (if 2 <= l.length /\ (if c = 224 then 160 else 128) <= l.getD 0 0 /\ l.getD 0 0 <= (if c = 237 then 159 else 191) /\ 128 <= l.getD 1 0 /\ l.getD 1 0 <= 191 then some 3 else none)
   else if 240 <= c /\ c <= 244 then (if 3 <= l.length /\ (if c = 240 then 144 else 128) <= l.getD 0 0 /\ l.getD 0 0 <= (if c = 244 then 143 else 191) /\ 128 <= l.getD 1 0 /\ l.getD 1 0 <= 191 /\ 128 <= l.getD 2 0 /\ l.getD 2 0 <= 191 then some 4 else none)
   else none
def ZeL : Nat -> List Int -> Bool
 | 0, _ => true
 | n + 1, l => if l = [] then true else match Zg6 l with
   | none => false
   | some k => ZeL n (l.drop k)
def ZaU (l : List Int) : Bool := ZeL l.length l
def toS (l : List Int) : List UInt8 := (Zh .u8 l).map Abs.byteOf
end Go.Proofs.YtimhmpdfioihlaaGreatDoor
namespace Go.Abs
set_option maxRecDepth 20000
open Go Go.RowKit
section
section
variable {P : Program} {f : FuncId} {args : List V} {R R' : V -> List (Nat × List V) -> Prop} {S : Nat -> Prop} {w w' : World} {r r' : V} {m m' : List (Nat × List V)} {u : Value}
theorem Out.wk (h : Out S w w' r m u) (hw : Wk r r') : Out S w w' r' m u := by
 obtain ⟨⟨S', β', h1, h2, h3, h4⟩, hfr⟩ := h
 exact ⟨⟨S', β', h1, h2, hw _ _ _ _ h3, h4⟩, hfr⟩
theorem AC.out (h : AC P f args R) (hw : ∀ r m, R r m -> ∃ r' m', R' r' m' /\ ∀ S w w' u, Out S w w' r m u -> Out S w w' r' m' u) : AC P f args R' := fun S w us h1 h2 h3 =>
 (h S w us h1 h2 h3).mono fun _ _ ⟨r, m, u, hR, e, o⟩ => by
  obtain ⟨r', m', hR', ho⟩ := hw r m hR
  exact ⟨r', m', u, hR', e, ho _ _ _ _ o⟩
theorem Wk.tup {cs' cs : List V} (h : WkL cs' cs) : Wk (.tup cs') (.tup cs) := fun S w β u hv => by
 cases hv with
 | flat h => cases h
 | tup _ us hl hr =>
   exact .tup cs us (by rw [<- h.length]; exact hl) (fun j v u hv hu => by
    obtain ⟨v', h1, h2⟩ := h.at hv
    exact h2 S w β u (hr j v' u h1 hu))
end
end
section
section
variable {P : Program} {st : St} {Q : Exit -> St -> Prop} {ops : Array Oper} {l l1 l2 rest tail : List Oper} {o : Oper}
theorem AW.drawK (k : Nat) {id : Nat} (hm : P.follows .mixedOrders = true) (hc : Zie l k = true) (h1 : l.take k = l1) (h2 : l.drop k = l2) (h : DWL P l.toArray l2 Q l1 st) : AW P (.region id l.toArray true) Q st := by
 subst h1 h2
 exact AW.draw k hm hc h
theorem DWL.nil (h : AWL P ops tail Q st) : DWL P ops tail Q [] st := h
theorem DWL.step {d : Nat} {v : V} (hg : o.guard = none) (hd : o.dst = some d) (hdn : Nat.ble (d + 1) st.n = true) (h : Zb2 P st o v) (k : DWL P ops tail Q rest (st.put d v)) : DWL P ops tail Q (o :: rest) st :=
 ⟨d, v, hd, Yaa hdn, .inl ⟨hg, h⟩, k⟩
theorem DWL.op {d : Nat} {v : V} {c : Prop} (hg : o.guard = none) (hd : o.dst = some d) (hdn : Nat.ble (d + 1) st.n = true) (h : vop P st o.op = some (c, v)) (hc : c) (k : DWL P ops tail Q rest (st.put d v)) : DWL P ops tail Q (o :: rest) st :=
 DWL.step hg hd hdn (Zb2.op h hc) k
end
end
end Go.Abs
namespace Go.Proofs.YtimhmpdfioihlaaGreatDoor
set_option maxRecDepth 20000
open Go Go.Abs Nat
attribute [local irreducible] AW AWL AC FW CW CWr IntKind.wrap
section
def S11 (xs : List Int) (bits at_ done n : Int) : St :=
 { n := 73, slots := [(0, .view xs.length 1 (Zh .u8 xs)), (1, .int .i64 at_), (2, .int .i64 bits), (9, .int .u64 n), (10, .int .i64 done)], mem := [] }
theorem MU.NM : type_of% @MB.NM /\ type_of% @S11.eq_1 :=
 ⟨MB.NM, @S11.eq_1⟩
open MU
open Zca Znn in
set_option maxRecDepth 4000 in
theorem ZEh (xs : List Int) (hb : bytes xs) (hlen : xs.length <= 1000000000000000) (at_ bits : Int) :
 AC Tryz.prog 75 [.view xs.length 1 (Zh .u8 xs), .int .i64 at_, .int .i64 bits] (fun r m => r = .tup [.int .u64 (ZaM xs at_ bits).1, .int .i64 (ZaM xs at_ bits).2.1, .int .i64 (ZaM xs at_ bits).2.2] /\ m = []) := by
 refine AC.enter Tryz.func75 rfl (Yaa rfl) ?_
 simp only [Tryz.f75]
 have nx := trivial
 refine' ZbU
 ·refine ⟨?_, trivial⟩; rw [ZaM, if_pos (by omega)]
 ·obtain ⟨a0, rfl⟩ : ∃ a0 : Nat, at_ = a0 := ⟨at_.toNat, by omega⟩
  have hsp : ZaM xs a0 bits = uRd bits (xs.drop a0) 0 0 a0 := by rw [ZaM, if_neg (by omega), Yap]
  refine AW.loop [0, 1, 2, 9, 10] [] (fun n st => ∃ (k a : Nat) (v : Int), st = S11 xs bits a (7 * k) v /\ a <= xs.length /\ n = xs.length - a /\ 7 * (k : Int) < bits /\ 0 <= v /\ v < 2 ^ (7 * k) /\ ZaM xs a0 bits = uRd bits (xs.drop a) (7 * k) v a) ?_ ?_
  ·exact ⟨_, 0, a0, 0, rfl, by omega, rfl, by omega, by decide, by decide, hsp⟩
  ·rintro n st ⟨k, a, v, rfl, ha, rfl, hkb, hv0, hv1, hs⟩
   by_cases hal : a < xs.length
   ·have hx := hb _ (Z8 hal)
    have hA := ZrP hx.1 hx.2
    have hB : IntKind.u64.wrap (xs.getD a 0 % 128) = xs.getD a 0 % 128 := ZaC rfl (by omega) (by show _ < (18446744073709551616 : Int); omega)
    rw [Zcq hal] at hs
    simp only [uRd] at hs
    have hF : (xs.getD a 0 % 128).fdiv (2 ^ min (bits - 7 * (k : Int)).toNat IntKind.u64.bits) = (xs.getD a 0 % 128) / 2 ^ (bits - 7 * (k : Int)).toNat := by
     rw [show min (bits - 7 * (k : Int)).toNat IntKind.u64.bits = (bits - 7 * (k : Int)).toNat from Nat.min_eq_left (by show _ <= 64; omega), ZoB _ _ (by omega)]
    have hM : min (7 * (k : Int)).toNat IntKind.u64.bits = 7 * k := by
     rw [Nat.min_eq_left (by show _ <= 64; omega)]; omega
    have hor := fun h => ZyS (k := k) (low := xs.getD a 0 % 128) (by omega) hkb hv0 hv1 (by omega) (by omega) h
    have e7 : (2 : Int) ^ (7 * k + 7) = 2 ^ (7 * (k + 1)) := by rw [Nat.mul_succ]
    have nx := aI @hA (aI @hB (aI @hF (aI @hM (aI @Zb trivial))))
    refine' ZbU
    all_goals try simp (disch := omega) only [NM, Nat.reduceBEq, reduceAdd, reduceMul, Int.reduceToNat, reduceSub, List.set_cons_zero, List.set_cons_succ, hA, hB, hF, hM, Zb]
    ·rw [hs, if_pos (.inr ⟨by omega, by assumption⟩)]; exact ⟨rfl, trivial⟩
    ·have ho := hor (fun _ => by assumption)
     rw [hs, if_neg (by rintro (⟨_, h⟩ | ⟨_, h⟩) <;> first | (exact h (by assumption)) | omega), if_pos (by assumption), ho.1]; exact ⟨rfl, trivial⟩
    ·rw [hs, if_pos (.inl ⟨by omega, by assumption⟩)]; exact ⟨rfl, trivial⟩
    ·rw [hs, if_pos (.inr ⟨by omega, by assumption⟩)]; exact ⟨rfl, trivial⟩
    ·have ho := hor (fun _ => by omega)
     rw [hs, if_neg (by rintro (⟨_, h⟩ | ⟨_, h⟩) <;> omega), if_pos (by assumption), ho.1]; exact ⟨rfl, trivial⟩
    ·have ho := hor (fun _ => by omega)
     rw [hs, if_neg (by rintro (⟨_, h⟩ | ⟨_, h⟩) <;> omega), if_pos (by assumption), ho.1]; exact ⟨rfl, trivial⟩
    ·have ho := hor (fun _ => by omega)
     rw [if_neg (by rintro (⟨_, h⟩ | ⟨_, h⟩) <;> omega), if_neg (by omega)] at hs
     refine ⟨xs.length - (a + 1), by omega, k + 1, a + 1, v + xs.getD a 0 % 128 * 2 ^ (7 * k), ?_, by omega, rfl, by omega, ho.2.1, by rw [<- e7]; exact ho.2.2, hs⟩
     rw [ho.1, show (7 * ((k + 1 : Nat) : Int)) = 7 * k + 7 from by omega]; rfl
   ·have nx := trivial
    refine' ZbU
    all_goals try simp (disch := omega) only [NM, Nat.reduceBEq, reduceAdd, reduceMul, Int.reduceToNat, reduceSub, List.set_cons_zero, List.set_cons_succ]
    ·rw [Ya7 (by omega)] at hs
     rw [hs]; exact ⟨rfl, trivial⟩
    all_goals (exfalso; omega)
 all_goals (refine ⟨?_, trivial⟩; rw [ZaM, if_pos (by omega)])
end
end Go.Proofs.YtimhmpdfioihlaaGreatDoor
namespace Go.Proofs.YtimhmpdfioihlaaGreatDoor
set_option maxRecDepth 20000
open Go Go.Abs Nat
section
theorem ZeG {x : Int} (h0 : 0 <= x) (h1 : x < 18446744073709551616) : IntKind.i64.wrap x = if x < 9223372036854775808 then x else x - 18446744073709551616 := by
 have e : x % 18446744073709551616 = x := Int.emod_eq_of_lt h0 h1
 show (if (true && decide (x % 18446744073709551616 >= 9223372036854775808)) = true then x % 18446744073709551616 - 18446744073709551616 else x % 18446744073709551616) = _
 rw [e]
 by_cases h : x < 9223372036854775808
 ·rw [if_neg (by simp; omega), if_pos h]
 ·rw [if_pos (by simp; omega), if_neg h]
theorem ZEi {k : Nat} (hk : k <= 8) {v low : Int} (hv0 : 0 <= v) (hv : v < 2 ^ (7 * k)) (h0 : 0 <= low) (h1 : low < 128) :
 Zu .or .i64 v (IntKind.i64.wrap (low * 2 ^ (7 * k))) = v + low * 2 ^ (7 * k) /\ 0 <= v + low * 2 ^ (7 * k) /\ v + low * 2 ^ (7 * k) < 2 ^ (7 * k + 7) := by
 have h2 := Zg0 hv0 hv h0 (m := 7) h1
 have hp : (0 : Int) < 2 ^ (7 * k) := Int.pow_pos (by decide)
 have hn : 0 <= low * 2 ^ (7 * k) := Int.mul_nonneg h0 (by omega)
 have h3 : (2 : Int) ^ (7 * k + 7) <= 2 ^ 63 := by exact_mod_cast Nat.pow_le_pow_right (by decide) (by omega)
 rw [Go.Abs.wrap_small (k := .i64) hn (by show _ < (2 : Int) ^ 63; omega)]
 exact ⟨ZlM (k := .i64) (7 * k) hv0 hv h0 (by show _ < (2 : Int) ^ 64; omega) (.inr (by show _ < (2 : Int) ^ 63; omega)), h2⟩
theorem Zwo {k : Nat} (hk : k <= 8) {v low : Int} (hv0 : 0 <= v) (hv : v < 2 ^ (7 * k)) (h0 : 0 <= low) (h1 : low < 128) :
 (IntKind.i64.wrap (Zu .or .i64 v (IntKind.i64.wrap (low * 2 ^ (7 * k))) * 2 ^ min (if 0 < 57 - 7 * (k : Int) then 57 - 7 * (k : Int) else 0).toNat IntKind.i64.bits)).fdiv (2 ^ min (if 0 < 57 - 7 * (k : Int) then 57 - 7 * (k : Int) else 0).toNat IntKind.i64.bits) = ZuS (7 * k + 7) (v + low * 2 ^ (7 * k)) := by
 obtain ⟨e, g0, g1⟩ := ZEi hk hv0 hv h0 h1
 rw [e]
 generalize v + low * 2 ^ (7 * k) = N at g0 g1
 have hs : min (if 0 < 57 - 7 * (k : Int) then 57 - 7 * (k : Int) else 0).toNat IntKind.i64.bits = 57 - 7 * k := by
  rw [show IntKind.i64.bits = 64 from rfl]; split <;> omega
 rw [hs]
 clear e hs hv hv0 h0 h1
 have : k = 0 \/ k = 1 \/ k = 2 \/ k = 3 \/ k = 4 \/ k = 5 \/ k = 6 \/ k = 7 \/ k = 8 := by omega
 rcases this with rfl | rfl | rfl | rfl | rfl | rfl | rfl | rfl | rfl <;>
  (simp only [Nat.reduceMul, Nat.reduceAdd, Nat.reduceSub, Int.reducePow] at g1 ⊢
   rw [ZeG (by omega) (by omega), Int.fdiv_eq_ediv_of_nonneg _ (by decide)]
   simp only [ZuS, Nat.reduceSub, Int.reducePow]
   split <;> split <;> omega)
theorem ZAH : ∀ v : Int, 0 <= v -> v < 2 ^ 63 -> Zu .or .i64 v (-9223372036854775808) = v - 9223372036854775808 := by
 intro v h0 h1
 simp only [Zu]
 rw [BitVec.toNat_or, ZaX h0 (by show _ < (2 : Int) ^ 64; omega), show (BitVec.ofInt IntKind.i64.bits (-9223372036854775808)).toNat = 1 * 2 ^ 63 from by decide, Nat.or_comm]
 have e := Nat.shiftLeft_add_eq_or_of_lt (b := v.toNat) (i := 63) (by omega) 1
 rw [Nat.shiftLeft_eq] at e
 rw [<- e, ZeG (by omega) (by omega), if_neg (by omega)]
 omega
theorem Zwp {v low : Int} (hv0 : 0 <= v) (hv : v < 2 ^ (7 * 9)) (h : low = 0 \/ low = 127) :
 (IntKind.i64.wrap (Zu .or .i64 v (IntKind.i64.wrap (low * 2 ^ (7 * 9))) * 2 ^ min (if 0 < 57 - 7 * ((9 : Nat) : Int) then 57 - 7 * ((9 : Nat) : Int) else 0).toNat IntKind.i64.bits)).fdiv (2 ^ min (if 0 < 57 - 7 * ((9 : Nat) : Int) then 57 - 7 * ((9 : Nat) : Int) else 0).toNat IntKind.i64.bits) = ZuS (7 * 9 + 7) (v + low * 2 ^ (7 * 9)) := by
 rw [if_neg (by decide), show min (Int.toNat 0) IntKind.i64.bits = 0 from rfl]
 simp only [Nat.reduceMul, Nat.reduceAdd, Int.reducePow, Int.mul_one, Int.fdiv_one] at hv ⊢
 rcases h with rfl | rfl
 ·rw [Int.zero_mul, show IntKind.i64.wrap 0 = 0 from rfl, show Zu .or .i64 v 0 = v from ?_, ZeG (by omega) (by omega), if_pos (by omega), ZuS, if_pos (by simp only [Nat.reduceSub, Int.reducePow]; omega)]
  ·omega
  ·have := ZlM (k := .i64) (a := v) (b := 0) 63 hv0 (by simp only [Int.reducePow]; omega) (by decide) (by show _ < (2 : Int) ^ 64; simp only [Int.reducePow]; omega) (.inr (by show _ < (2 : Int) ^ 63; simp only [Int.reducePow]; omega))
   simpa using this
 ·rw [show IntKind.i64.wrap (127 * 9223372036854775808) = -9223372036854775808 from by decide, ZAH v hv0 (by simp only [Int.reducePow]; omega), Zb _ (by omega) (by omega), ZuS, if_neg (by simp only [Nat.reduceSub, Int.reducePow]; omega)]
  simp only [Int.reducePow]; omega
theorem Zyg {bits : Int} {k : Nat} {x : Int} (hb : bits <= 64) (hk : 7 * (k : Int) < bits) (h9 : ¬k <= 8) (h : bits - 7 * k <= 7 -> sx x / 2 ^ (bits - 7 * k - 1).toNat = 0 \/ sx x / 2 ^ (bits - 7 * k - 1).toNat = -1) : k = 9 /\ (x % 128 = 0 \/ x % 128 = 127) := by
 obtain rfl : k = 9 := by omega
 obtain rfl : bits = 64 := by omega
 have := h (by decide)
 rw [show ((64 : Int) - 7 * ((9 : Nat) : Int) - 1).toNat = 0 from rfl, Int.pow_zero, Int.ediv_one] at this
 refine ⟨rfl, ?_⟩
 revert this
 unfold sx
 split <;> omega
theorem Znx {bits : Int} {k : Nat} {x v : Int} (hb : bits <= 64) (hk : 7 * (k : Int) < bits) (hv0 : 0 <= v) (hv : v < 2 ^ (7 * k)) (h : bits - 7 * k <= 7 -> sx x / 2 ^ (bits - 7 * k - 1).toNat = 0 \/ sx x / 2 ^ (bits - 7 * k - 1).toNat = -1) :
 (IntKind.i64.wrap (Zu .or .i64 v (IntKind.i64.wrap (x % 128 * 2 ^ (7 * k))) * 2 ^ min (if 0 < 57 - 7 * (k : Int) then 57 - 7 * (k : Int) else 0).toNat IntKind.i64.bits)).fdiv (2 ^ min (if 0 < 57 - 7 * (k : Int) then 57 - 7 * (k : Int) else 0).toNat IntKind.i64.bits) = ZuS (7 * k + 7) (v + x % 128 * 2 ^ (7 * k)) := by
 by_cases h9 : k <= 8
 ·exact Zwo h9 hv0 hv (by omega) (by omega)
 ·obtain ⟨rfl, hl⟩ := Zyg hb hk h9 h
  exact Zwp hv0 hv hl
attribute [local irreducible] AW AWL AC FW CW CWr IntKind.wrap
def S13 (xs : List Int) (bits at_ done n : Int) : St :=
 { n := 83, slots := [(0, .view xs.length 1 (Zh .u8 xs)), (1, .int .i64 at_), (2, .int .i64 bits), (9, .int .i64 n), (10, .int .i64 done)], mem := [] }
theorem MS.NM : type_of% @MB.NM /\ type_of% @S13.eq_1 :=
 ⟨MB.NM, @S13.eq_1⟩
open MS
open Zca Znn in
set_option maxRecDepth 4000 in
theorem ZE3 (xs : List Int) (hb : bytes xs) (hlen : xs.length <= 1000000000000000) (at_ bits : Int) :
 AC Tryz.prog 175 [.view xs.length 1 (Zh .u8 xs), .int .i64 at_, .int .i64 bits] (fun r m => r = .tup [.int .i64 (Zad xs at_ bits).1, .int .i64 (Zad xs at_ bits).2.1, .int .i64 (Zad xs at_ bits).2.2] /\ m = []) := by
 refine AC.enter Tryz.func175 rfl (Yaa rfl) ?_
 simp only [Tryz.f175]
 have nx := trivial
 refine' ZbU
 ·refine ⟨?_, trivial⟩; rw [Zad, if_pos (by omega)]
 ·obtain ⟨a0, rfl⟩ : ∃ a0 : Nat, at_ = a0 := ⟨at_.toNat, by omega⟩
  have hsp : Zad xs a0 bits = sRd bits (xs.drop a0) 0 0 a0 := by rw [Zad, if_neg (by omega), Yap]
  refine AW.loop [0, 1, 2, 9, 10] [] (fun n st => ∃ (k a : Nat) (v : Int), st = S13 xs bits a (7 * k) v /\ a <= xs.length /\ n = xs.length - a /\ 7 * (k : Int) < bits /\ 0 <= v /\ v < 2 ^ (7 * k) /\ Zad xs a0 bits = sRd bits (xs.drop a) (7 * k) v a) ?_ ?_
  ·exact ⟨_, 0, a0, 0, rfl, by omega, rfl, by omega, by decide, by decide, hsp⟩
  ·rintro n st ⟨k, a, v, rfl, ha, rfl, hkb, hv0, hv1, hs⟩
   by_cases hal : a < xs.length
   ·have hx := hb _ (Z8 hal)
    have hA := ZrP hx.1 hx.2
    have hB : IntKind.i64.wrap (xs.getD a 0 % 128) = xs.getD a 0 % 128 := Zb _ (by omega) (by omega)
    rw [Zcq hal] at hs
    simp only [sRd] at hs
    have hM : min (7 * (k : Int)).toNat IntKind.i64.bits = 7 * k := by
     rw [Nat.min_eq_left (by show _ <= 64; omega)]; omega
    have e7 : (2 : Int) ^ (7 * k + 7) = 2 ^ (7 * (k + 1)) := by rw [Nat.mul_succ]
    have hX := ZC0 hx
    have hX2 := hX
    simp only [Int.reduceToNat] at hX2
    have nx := aI @hA (aI @hB (aI @hM (aI @hX (aI @hX2 (aI @ZEg (aI @Zb trivial))))))
    refine' ZbU
    all_goals try simp (disch := omega) only [NM, Nat.reduceBEq, reduceAdd, reduceMul, Int.reduceToNat, reduceSub, List.set_cons_zero, List.set_cons_succ, hA, hB, hM, hX, hX2, ZEg, Zb]
    all_goals first
     | ((rw [hs, if_pos ⟨by assumption, .inr (by omega)⟩]; exact ⟨rfl, trivial⟩))
     | ((have hg := Znx (x := xs.getD a 0) (by omega) hkb hv0 hv1 (fun _ => .inr (by assumption))); (rw [if_neg (by rintro ⟨_, ⟨_, h⟩ | h⟩ <;> first | exact h (by assumption) | omega), if_pos (by assumption)] at hs; rw [hs, hg]; exact ⟨rfl, trivial⟩))
     | ((rw [hs, if_pos ⟨by assumption, .inl ⟨by assumption, by assumption⟩⟩]; exact ⟨rfl, trivial⟩))
     | ((rw [hs, if_pos ⟨by assumption, .inr (by omega)⟩]; exact ⟨rfl, trivial⟩))
     | ((have hg := Znx (x := xs.getD a 0) (by omega) hkb hv0 hv1 (fun _ => .inl (by assumption))); (rw [if_neg (by rintro ⟨_, ⟨h, _⟩ | h⟩ <;> first | exact h (by assumption) | omega), if_pos (by assumption)] at hs; rw [hs, hg]; exact ⟨rfl, trivial⟩))
     | ((have hg := Znx (x := xs.getD a 0) (by omega) hkb hv0 hv1 (fun _ => by omega)); (rw [if_neg (by rintro ⟨_, _⟩; omega), if_pos (by assumption)] at hs; rw [hs, hg]; exact ⟨rfl, trivial⟩))
     | ((have ho := ZEi (k := k) (low := xs.getD a 0 % 128) (by omega) hv0 hv1 (by omega) (by omega)); (rw [if_neg (by rintro ⟨_, _⟩; omega), if_neg (by omega)] at hs); (refine ⟨xs.length - (a + 1), by omega, k + 1, a + 1, v + xs.getD a 0 % 128 * 2 ^ (7 * k), ?_, by omega, rfl, by omega, ho.2.1, by rw [<- e7]; exact ho.2.2, hs⟩); (rw [ho.1, show (7 * ((k + 1 : Nat) : Int)) = 7 * k + 7 from by omega]; rfl))
   ·have nx := trivial
    refine' ZbU
    all_goals try simp (disch := omega) only [NM, Nat.reduceBEq, reduceAdd, reduceMul, Int.reduceToNat, reduceSub, List.set_cons_zero, List.set_cons_succ]
    ·rw [Ya7 (by omega)] at hs
     rw [hs]; exact ⟨rfl, trivial⟩
    all_goals (exfalso; omega)
 all_goals (refine ⟨?_, trivial⟩; rw [Zad, if_pos (by omega)])
end
end Go.Proofs.YtimhmpdfioihlaaGreatDoor
namespace Go.Proofs.YtimhmpdfioihlaaGreatDoor
set_option maxRecDepth 20000
open Go Go.Abs
theorem ZbX {l : List Int} (h : bytes l) {k : Nat} (hk : k < l.length) : Zgi (l.getD k 0) := h _ (Z8 hk)
theorem Zbq {l : List Int} (h : bytes l) (n : Nat) : bytes (l.take n) := fun x hx => h x (List.mem_of_mem_take hx)
theorem Zfc {l : List Int} (h : bytes l) (n : Nat) : bytes (l.drop n) := fun x hx => h x (List.mem_of_mem_drop hx)
def le : List Int -> Int
 | [] => 0
 | x :: l => x + 256 * le l
def toB : Nat -> Int -> List Int
 | 0, _ => []
 | n + 1, x => x % 256 :: toB n (x / 256)
theorem ZyV (n : Nat) (x : Int) : (toB n x).length = n := by
 induction n generalizing x with
 | zero => rfl
 | succ n ih => simp [toB, ih]
theorem ZB6 (n : Nat) : (2 : Int) ^ (8 * (n + 1)) = 256 * 2 ^ (8 * n) := by
 rw [show 8 * (n + 1) = 8 * n + 8 from by omega, Int.pow_add, Int.mul_comm]; rfl
theorem Zto (a b : List Int) : le (a ++ b) = le a + 2 ^ (8 * a.length) * le b := by
 induction a with
 | nil => simp [le]
 | cons x a ih =>
   rw [List.cons_append, le, ih, Yag, ZB6, le, Int.mul_add, Int.mul_assoc]; omega
theorem Zgj {l : List Int} (h : bytes l) : 0 <= le l /\ le l < 2 ^ (8 * l.length) := by
 induction l with
 | nil => exact ⟨Int.le_refl _, by decide⟩
 | cons x l ih =>
   have h1 := ih (fun y hy => h y (Yaq _ hy))
   have h2 := h x (List.mem_cons_self ..)
   rw [Yag, ZB6, le]
   unfold Zgi at h2
   omega
theorem Zny {l : List Int} {k : Nat} (h : k < l.length) : le (l.take (k + 1)) = le (l.take k) + l.getD k 0 * 2 ^ (8 * k) := by
 rw [Zdo h, Zto, Yar, Nat.min_eq_left (by omega)]
 simp [le, Int.mul_comm]
def Zei (w : Int) : Nat := if w = 8 then 16 else if w = 16 then 8 else if w = 32 then 4 else if w = 64 then 2 else 0
def wb (w : Int) : Nat := (w / 8).toNat
theorem Zl4 {w : Int} (h : Zei w ≠ 0) : (w = 8 \/ w = 16 \/ w = 32 \/ w = 64) := by
 unfold Zei at h; split at h <;> (try (split at h)) <;> (try (split at h)) <;> (try (split at h)) <;> simp_all
theorem Zpb {w : Int} (h : Zei w ≠ 0) : Zei w * wb w = 16 /\ w = 8 * (wb w : Int) /\ 1 <= wb w /\ wb w <= 8 := by
 rcases Zl4 h with rfl | rfl | rfl | rfl <;> decide
def get (v : List Int) (w i : Int) : Int := if 0 <= i /\ i < Zei w then le ((v.drop (i.toNat * wb w)).take (wb w)) else 0
def sgn (w x : Int) : Int := if x % 2 ^ w.toNat < 2 ^ (w.toNat - 1) then x % 2 ^ w.toNat else x % 2 ^ w.toNat - 2 ^ w.toNat
def signed (v : List Int) (w i : Int) : Int := if Zei w = 0 then 0 else sgn w (get v w i)
def ZAK (l : List Int) (o : Nat) (m : List Int) : List Int := l.take o ++ m ++ l.drop (o + m.length)
def set (v : List Int) (w i x : Int) : List Int := if 0 <= i /\ i < Zei w then ZAK v (i.toNat * wb w) (toB (wb w) x) else v
def Ztp : List Int := [0, 0, 0, 0, 0, 0, 0, 0, 0, 0, 0, 0, 0, 0, 0, 0]
def ZEk (w : Int) : List Int -> Nat -> List Int -> List Int
 | v, _, [] => v
 | v, i, x :: xs => ZEk w (set v w i x) (i + 1) xs
def of (w : Int) (xs : List Int) : List Int := ZEk w Ztp 0 (xs.take (Zei w))
def all (v : List Int) (w : Int) : List Int := (List.range (Zei w)).map fun i => get v w (i : Nat)
def lo (v : List Int) : Int := le (v.take 8)
def hi (v : List Int) : Int := le (v.drop 8)
def join (l h : Int) : List Int := toB 8 l ++ toB 8 h
def need (t : Int) : Nat := if t = 127 \/ t = 126 then 1 else if t = 123 then 2 else 0
theorem wbe {w : Int} (h : Zei w ≠ 0) : IntKind.i64.wrap (Int.tdiv w 8) = wb w := by
 rcases Zl4 h with rfl | rfl | rfl | rfl <;> decide +kernel
theorem ZyW {w : Int} {i : Nat} (h : i < Zei w) : Zei w ≠ 0 /\ i * wb w + wb w <= 16 := by
 have h0 : Zei w ≠ 0 := by omega
 obtain ⟨h1, _, _, _⟩ := Zpb h0
 refine ⟨h0, ?_⟩
 have : (i + 1) * wb w <= Zei w * wb w := Nat.mul_le_mul_right _ h
 rw [Nat.add_mul, Nat.one_mul] at this; omega
theorem Za5 {k : IntKind} {l : List Int} (h : l.length = 16) : List.drop 16 (Zh k l) = [] := Ya7 (by rw [Za]; omega)
theorem dz : List.drop 16 (Zh .u8 Ztp) = [] := rfl
theorem Zas {l : List Int} (h : l.length = 16) : List.take 16 l = l := Yad (by omega)
end Go.Proofs.YtimhmpdfioihlaaGreatDoor
namespace Go.Proofs.YtimhmpdfioihlaaGreatDoor
open Go Go.Abs
attribute [local irreducible] AW AWL AC FW CW CWr IntKind.wrap
theorem Ztq.sd {p : Prop} (h : p := by first | exact Zvj) : p := h
open Ztq in
set_option maxRecDepth 8000 in
theorem Znz : AC Tryz.prog 138 [] (fun r m => r = .ref 0 0 42 5 /\ m = [(0, Zo6 Zdb)]) := by
 refine AC.enter Tryz.func138 rfl (Yaa rfl) ?_
 simp only [Tryz.f138]
 have nx := trivial
 refine' Zkv
 all_goals first | exact ⟨trivial, trivial⟩ | exact ⟨rfl, trivial⟩ | exact ⟨rfl, rfl⟩ | exact ⟨trivial, rfl⟩ | (exfalso; omega) | trace_state
theorem Zg1 : AC Tryz.prog 138 [] (fun r m => r = .view 42 5 (Zo6 Zdb) /\ m = []) := Znz.look ((Zo7 _).trans rfl)
open Ztq in
set_option maxRecDepth 8000 in
theorem ZnA : AC Tryz.prog 139 [] (fun r m => r = .ref 0 0 66 5 /\ m = [(0, Zo6 Zd0)]) := by
 refine AC.enter Tryz.func139 rfl (Yaa rfl) ?_
 simp only [Tryz.f139]
 have nx := trivial
 refine' Zkv
 all_goals first | exact ⟨trivial, trivial⟩ | exact ⟨rfl, trivial⟩ | exact ⟨rfl, rfl⟩ | exact ⟨trivial, rfl⟩ | (exfalso; omega) | trace_state
theorem Zg2 : AC Tryz.prog 139 [] (fun r m => r = .view 66 5 (Zo6 Zd0) /\ m = []) := ZnA.look ((Zo7 _).trans rfl)
open Ztq in
set_option maxRecDepth 100000 in
theorem Ztr : AC Tryz.prog 161 [] (fun r m => r = .ref 0 0 108 1 /\ m = [(0, Zl1 ZlX)]) := by
 refine AC.enter Tryz.func161 rfl (Yaa rfl) ?_
 simp only [Tryz.f161]
 have nx := trivial
 refine' Zkv
 all_goals first | exact ⟨trivial, trivial⟩ | exact ⟨rfl, trivial⟩ | exact ⟨rfl, rfl⟩ | exact ⟨trivial, rfl⟩ | (exfalso; omega) | trace_state
theorem Zpc : AC Tryz.prog 161 [] (fun r m => r = .view 108 1 (Zl1 ZlX) /\ m = []) := Ztr.look ((Zkw _).trans rfl)
end Go.Proofs.YtimhmpdfioihlaaGreatDoor
namespace Go.Proofs.YtimhmpdfioihlaaGreatDoor
set_option maxRecDepth 20000
open Go Go.Abs Nat
attribute [local irreducible] AW AWL AC FW CW CWr IntKind.wrap
section
def G17 (xs ys : List Int) (i : Int) : St :=
 { n := 26, slots := [(0, .view xs.length 1 (Zh .i64 xs)), (1, .view ys.length 1 (Zh .i64 ys)), (5, .int .i64 i)], mem := [] }
theorem ZBo.NM : type_of% @MB.NM /\ type_of% @G17.eq_1 :=
 ⟨MB.NM, @G17.eq_1⟩
open ZBo
open ZfK ZeE in
theorem Zxr (xs ys : List Int) (hlen : xs.length <= 1000000000000000) : AC Tryz.prog 55 [.view xs.length 1 (Zh .i64 xs), .view ys.length 1 (Zh .i64 ys)] (fun r m => r = .bool (decide (xs = ys)) /\ m = []) := by
 refine AC.enter Tryz.func55 rfl (Yaa rfl) ?_
 simp only [Tryz.f55]
 have nx := trivial
 refine' Zo3
 ·refine ⟨?_, trivial⟩
  rw [Yaf]
  intro e; subst e; exact hc rfl
 ·have hll : xs.length = ys.length := by omega
  refine AW.loop [0, 1, 5] [] (fun n st => ∃ (k : Nat) (i : Int), st = G17 xs ys i /\ k <= xs.length /\ n = xs.length - k /\ i = k /\ xs.take k = ys.take k) ?_ ?_
  ·exact ⟨_, 0, _, rfl, Nat.zero_le _, rfl, rfl, rfl⟩
  ·rintro n st ⟨k, i, rfl, hk, rfl, rfl, he⟩
   have nx := trivial
   refine' Zo3
   all_goals try simp (disch := omega) only [NM, Nat.reduceBEq, reduceAdd, reduceMul, Int.reduceToNat, reduceSub, List.set_cons_zero, List.set_cons_succ]
   ·have hk2 : k < xs.length := by omega
    refine ⟨?_, trivial⟩
    rw [Yaf]
    intro e; subst e; exact hc rfl
   ·have hk2 : k < xs.length := by omega
    refine ⟨_, ?_, k + 1, _, rfl, hk2, rfl, Zb _ (by omega) (by omega), ?_⟩
    ·omega
    ·rw [Zeq _ _ hk2, Zeq _ _ (by omega), he, hc]
   ·have hkk : k = xs.length := by omega
    subst hkk
    refine ⟨?_, trivial⟩
    rw [Yau, Yad (by omega)] at he
    rw [Yae he]
end
section
def S19 (n k : Int) : St := { n := 11, slots := [(0, .int .u64 n), (3, .int .i64 k)], mem := [] }
def ZeH (x i : Int) : Int := x / 2 ^ i.toNat % 2
theorem Zyh (x i : Int) : ZeH x i = 0 \/ ZeH x i = 1 := by unfold ZeH; omega
theorem ZE4.NM : type_of% @MB.NM /\ type_of% @S19.eq_1 :=
 ⟨MB.NM, @S19.eq_1⟩
open ZE4
open ZsX Znn in
theorem Zth (x : Int) (hx : Zgi x) (i : Int) (hi : 0 <= i /\ i < 8) : AC Tryz.prog 159 [.int .u8 x, .int .i64 i] (fun r m => r = .int .i64 (ZeH x i) /\ m = []) := by
 have h1 := hx.1
 have h2 := hx.2
 have e1 : IntKind.u64.wrap i = i := ZaC rfl hi.1 (by show _ < (18446744073709551616 : Int); omega)
 have e2 : x.fdiv (2 ^ min i.toNat IntKind.u8.bits) = x / 2 ^ i.toNat := by
  rw [Nat.min_eq_left (by show _ <= 8; omega), ZoB _ _ h1]
 have hp : (0 : Int) < 2 ^ i.toNat := Int.pow_pos (by decide)
 have h3 : 0 <= x / 2 ^ i.toNat := Int.ediv_nonneg h1 (Int.le_of_lt hp)
 have h4 : x / 2 ^ i.toNat <= x := Int.ediv_le_self _ h1
 have e3 : IntKind.i64.wrap (x / 2 ^ i.toNat) = x / 2 ^ i.toNat := Zb _ (by omega) (by omega)
 have e4 : (x / 2 ^ i.toNat).tmod 2 = ZeH x i := Int.tmod_eq_emod_of_nonneg h3
 refine AC.enter Tryz.func159 rfl (Yaa rfl) ?_
 simp only [Tryz.f159]
 have nx := aI @e1 (aI @e2 (aI @e3 (aI @e4 trivial)))
 refine' ZvV
 all_goals exact ⟨trivial, trivial⟩
end
end Go.Proofs.YtimhmpdfioihlaaGreatDoor
namespace Go.Proofs.YtimhmpdfioihlaaGreatDoor
set_option maxRecDepth 20000
open Go Go.Abs
attribute [local irreducible] AW AWL AC FW CW CWr IntKind.wrap
theorem ZC7 (h : 9 < Tryz.prog.types.size) : (Tryz.prog.types[9]'h).bytes = 16 := by kernel_rfl
theorem ZeI (l : List (List UInt8)) (x : List UInt8) : Zl1 l ++ [V.str x] = Zl1 (l ++ [x]) := by simp [Zl1]
def wst (s : List UInt8) : Nat -> List (List UInt8) × Nat
 | 0 => ([], 0)
 | i + 1 => match wst s i with
   | (l, f) => if i = s.length \/ (s.getD i 0).toNat = 32 then (l ++ [(s.drop f).take (i - f)], i + 1) else (l, f)
theorem Zts {s : List UInt8} {i : Nat} (h : i = s.length \/ (s.getD i 0).toNat = 32) : wst s (i + 1) = ((wst s i).1 ++ [(s.drop (wst s i).2).take (i - (wst s i).2)], i + 1) := by
 rw [wst]; cases wst s i; exact if_pos h
theorem Zyl {s : List UInt8} {i : Nat} (h : ¬(i = s.length \/ (s.getD i 0).toNat = 32)) : wst s (i + 1) = wst s i := by
 rw [wst]; cases wst s i; exact if_neg h
def Zpd (s : List UInt8) : List (List UInt8) := (wst s (s.length + 1)).1
theorem ZAL (s : List UInt8) (i : Nat) : (wst s i).2 <= i /\ (wst s i).1.length <= i := by
 induction i with
 | zero => exact ⟨Nat.le_refl _, Nat.le_refl _⟩
 | succ i ih =>
   by_cases h : i = s.length \/ (s.getD i 0).toNat = 32
   ·rw [Zts h]; simp; omega
   ·rw [Zyl h]; omega
def W4 (s : List UInt8) (L : List (List UInt8)) (f i : Int) : St := { n := 32, slots := [(0, .str s), (2, .ref 2 0 0 1), (3, .ref 3 0 L.length 1), (4, .int .i64 f), (5, .int .i64 i)], mem := [(3, ⟨true, Zl1 L⟩)] }
theorem ZyX.sd {p : Prop} (h : p := by first | exact ZvF) : p := h
open ZyX ZgY in
theorem Zws (s : List UInt8) (hs : s.length <= 1000) : AC Tryz.prog 162 [.str s] (fun r m => r = .ref 2 0 (Zpd s).length 1 /\ m = [(2, Zl1 (Zpd s))]) := by
 refine AC.enter Tryz.func162 rfl (Yaa rfl) ?_
 simp only [Tryz.f162]
 have nx := trivial
 refine' ZhL
 refine AW.loop [0, 2, 3, 4, 5] [3] (fun m st => ∃ (i : Nat), st = W4 s (wst s i).1 (wst s i).2 i /\ i <= s.length + 1 /\ m = s.length + 1 - i) ?_ ?_
 ·exact ⟨_, 0, rfl, Nat.zero_le _, rfl⟩
 rintro m st ⟨i, rfl, hi, rfl⟩
 have e5 : IntKind.i64.wrap ((i : Int) + 1) = ((i + 1 : Nat) : Int) := Zb _ (by omega) (by omega)
 have hw := ZAL s i
 by_cases hin : i <= s.length
 ·by_cases hc0 : i = s.length \/ (s.getD i 0).toNat = 32
  ·have hn : wst s (i + 1) = ((wst s i).1 ++ [(s.drop (wst s i).2).take (i - (wst s i).2)], i + 1) := Zts hc0
   have hn1 : (wst s (i + 1)).1 = (wst s i).1 ++ [(s.drop (wst s i).2).take (i - (wst s i).2)] := by rw [hn]
   have hn2 : (wst s (i + 1)).2 = i + 1 := by rw [hn]
   have hst : List.take (wst s i).1.length (Zl1 (wst s i).1) = Zl1 (wst s i).1 := Yad (Nat.le_of_eq (Zkw _))
   have nx := aI @e5 (aI @hst trivial)
   refine' ZhL
   all_goals try simp (disch := omega) only [NSX, St.keepS, Nat.reduceBEq, Nat.reduceAdd, Nat.reduceMul, Int.reduceToNat, Nat.reduceSub, TY, List.set_cons_zero, List.set_cons_succ, SLS, Za, Zag, Zo, W4, ZeI, e5, hst]
   all_goals first
    | exact ⟨s.length + 1 - (i + 1), by omega, i + 1, by rw [hn1, hn2, Yal, List.length_singleton], by omega, rfl⟩
    | (exfalso; omega) | trace_state
  ·have hn : wst s (i + 1) = wst s i := Zyl hc0
   have nx := aI @e5 trivial
   refine' ZhL
   all_goals try simp (disch := omega) only [NSX, St.keepS, Nat.reduceBEq, Nat.reduceAdd, Nat.reduceMul, Int.reduceToNat, Nat.reduceSub, TY, List.set_cons_zero, List.set_cons_succ, SLS, Za, Zag, Zo, W4, ZeI, e5]
   all_goals first
    | exact ⟨s.length + 1 - (i + 1), by omega, i + 1, by first | (rw [hn]; done) | (rw [hn]; rfl), by omega, rfl⟩
    | (exfalso; omega) | trace_state
 ·obtain rfl : i = s.length + 1 := by omega
  have nx := trivial
  refine' ZhL
  all_goals first | exact ⟨trivial, trivial⟩ | exact ⟨rfl, trivial⟩ | exact ⟨rfl, rfl⟩ | exact ⟨trivial, rfl⟩ | (exfalso; omega) | trace_state
end Go.Proofs.YtimhmpdfioihlaaGreatDoor
