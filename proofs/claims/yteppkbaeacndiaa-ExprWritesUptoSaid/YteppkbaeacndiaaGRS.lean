/- Rows of instructions. -/
import Derived.Test.YteppkbaeacndiaaGCB
import Derived.Test.YteppkbaeacndiaaDP
import Derived.Test.YteppkbaeacndiaaDB
set_option linter.unusedSimpArgs false
set_option linter.unusedVariables false
namespace Go.Proofs.Yteppkbaeacndiaa
set_option maxRecDepth 20000
open Go Go.Abs
def SL : TypeId -> List (Nat × Nat) := fun t => if t = 38 then [(5, 1)] else if t = 43 then [(2, 1)] else if t = 48 then [(3, 1), (4, 1)] else if t = 36 then [(0, 1)] else []
theorem SLS : SL 3 = [] /\ SL 2 = [] /\ SL 5 = [] /\ SL 9 = [] /\ SL 4 = [] /\ SL 35 = [] /\ SL 92 = [] /\ SL 22 = [] /\ SL 24 = [] /\ SL 38 = [(5, 1)] /\ SL 43 = [(2, 1)] /\ SL 36 = [(0, 1)] /\ SL 48 = [(3, 1), (4, 1)] /\ SL 79 = [] /\ SL 97 = [] /\ SL 91 = [] /\ SL 88 = [] /\ SL 82 = [] /\ SL 85 = [] /\ SL 65 = [] /\ SL 25 = [] /\ SL 33 = [] /\ SL 105 = [] := ⟨rfl, rfl, rfl, rfl, rfl, rfl, rfl, rfl, rfl, rfl, rfl, rfl, rfl, rfl, rfl, rfl, rfl, rfl, rfl, rfl, rfl, rfl, rfl⟩
theorem hmix : Try.prog.follows .mixedOrders = true := by kernel_rfl
abbrev Row := Int × Int × Int × Int × List UInt8
def scalarsR : List Row := [(0, 0, 1, 0, []), (1, 1, 1, 0, [58]), (2, 4, 2, 0, []), (5, 5, 1, 0, []), (11, 11, 1, 0, []), (12, 13, 3, 0, []), (14, 14, 4, 0, []), (15, 15, 1, 0, []), (16, 16, 5, 0, []), (17, 17, 6, 0, []), (26, 27, 1, 0, []), (32, 36, 5, 0, []), (40, 40, 7, 2, [105, 58, 105]), (41, 41, 7, 3, [105, 58, 108]), (44, 45, 7, 0, [105, 58, 105]), (46, 47, 7, 1, [105, 58, 105]), (48, 49, 7, 0, [105, 58, 108]), (50, 51, 7, 1, [105, 58, 108]), (52, 53, 7, 2, [105, 58, 108]), (54, 54, 7, 2, [105, 105, 58]), (55, 55, 7, 3, [105, 108, 58]), (58, 58, 7, 0, [105, 105, 58]), (59, 59, 7, 1, [105, 105, 58]), (60, 60, 7, 0, [105, 108, 58]), (61, 61, 7, 1, [105, 108, 58]), (62, 62, 7, 2, [105, 108, 58]), (63, 63, 14, 0, [58, 105]), (64, 64, 14, 0, [105, 58, 105]), (65, 65, 9, 0, [58, 105]), (66, 66, 10, 0, [58, 108]), (69, 69, 1, 0, [105, 58, 105]), (70, 79, 1, 0, [105, 105, 58, 105]), (80, 80, 1, 0, [108, 58, 105]), (81, 90, 1, 0, [108, 108, 58, 105]), (103, 105, 1, 0, [105, 58, 105]), (106, 120, 1, 0, [105, 105, 58, 105]), (121, 123, 1, 0, [108, 58, 108]), (124, 138, 1, 0, [108, 108, 58, 108]), (167, 167, 1, 0, [108, 58, 105]), (172, 173, 1, 0, [105, 58, 108]), (192, 193, 1, 0, [105, 58, 105]), (194, 196, 1, 0, [108, 58, 108])]
def vectorsR : List Row := [(64768, 64768, 7, 4, [105, 58, 118]), (64769, 64774, 7, 3, [105, 58, 118]), (64775, 64775, 7, 0, [105, 58, 118]), (64776, 64776, 7, 1, [105, 58, 118]), (64777, 64777, 7, 2, [105, 58, 118]), (64778, 64778, 7, 3, [105, 58, 118]), (64779, 64779, 7, 4, [105, 118, 58]), (64780, 64780, 11, 0, [58, 118]), (64781, 64781, 12, 0, [118, 118, 58, 118]), (64782, 64782, 1, 0, [118, 118, 58, 118]), (64783, 64785, 1, 0, [105, 58, 118]), (64786, 64786, 1, 0, [108, 58, 118]), (64789, 64790, 13, 16, [118, 58, 105]), (64791, 64791, 13, 16, [118, 105, 58, 118]), (64792, 64793, 13, 8, [118, 58, 105]), (64794, 64794, 13, 8, [118, 105, 58, 118]), (64795, 64795, 13, 4, [118, 58, 105]), (64796, 64796, 13, 4, [118, 105, 58, 118]), (64797, 64797, 13, 2, [118, 58, 108]), (64798, 64798, 13, 2, [118, 108, 58, 118]), (64803, 64832, 1, 0, [118, 118, 58, 118]), (64845, 64845, 1, 0, [118, 58, 118]), (64846, 64849, 1, 0, [118, 118, 58, 118]), (64850, 64850, 1, 0, [118, 118, 118, 58, 118]), (64851, 64851, 1, 0, [118, 58, 105]), (64852, 64852, 8, 0, [105, 118, 58, 118]), (64853, 64853, 8, 1, [105, 118, 58, 118]), (64854, 64854, 8, 2, [105, 118, 58, 118]), (64855, 64855, 8, 3, [105, 118, 58, 118]), (64856, 64856, 8, 0, [105, 118, 58]), (64857, 64857, 8, 1, [105, 118, 58]), (64858, 64858, 8, 2, [105, 118, 58]), (64859, 64859, 8, 3, [105, 118, 58]), (64860, 64860, 7, 2, [105, 58, 118]), (64861, 64861, 7, 3, [105, 58, 118]), (64864, 64866, 1, 0, [118, 58, 118]), (64867, 64868, 1, 0, [118, 58, 105]), (64869, 64870, 1, 0, [118, 118, 58, 118]), (64875, 64877, 1, 0, [118, 105, 58, 118]), (64878, 64883, 1, 0, [118, 118, 58, 118]), (64886, 64889, 1, 0, [118, 118, 58, 118]), (64891, 64891, 1, 0, [118, 118, 58, 118]), (64892, 64897, 1, 0, [118, 58, 118]), (64898, 64898, 1, 0, [118, 118, 58, 118]), (64899, 64900, 1, 0, [118, 58, 105]), (64901, 64902, 1, 0, [118, 118, 58, 118]), (64903, 64906, 1, 0, [118, 58, 118]), (64907, 64909, 1, 0, [118, 105, 58, 118]), (64910, 64915, 1, 0, [118, 118, 58, 118]), (64917, 64921, 1, 0, [118, 118, 58, 118]), (64923, 64927, 1, 0, [118, 118, 58, 118]), (64928, 64929, 1, 0, [118, 58, 118]), (64931, 64932, 1, 0, [118, 58, 105]), (64935, 64938, 1, 0, [118, 58, 118]), (64939, 64941, 1, 0, [118, 105, 58, 118]), (64942, 64942, 1, 0, [118, 118, 58, 118]), (64945, 64945, 1, 0, [118, 118, 58, 118]), (64949, 64954, 1, 0, [118, 118, 58, 118]), (64956, 64959, 1, 0, [118, 118, 58, 118]), (64960, 64961, 1, 0, [118, 58, 118]), (64963, 64964, 1, 0, [118, 58, 105]), (64967, 64970, 1, 0, [118, 58, 118]), (64971, 64973, 1, 0, [118, 105, 58, 118]), (64974, 64974, 1, 0, [118, 118, 58, 118]), (64977, 64977, 1, 0, [118, 118, 58, 118]), (64981, 64991, 1, 0, [118, 118, 58, 118])]
def tableR : List (List UInt8) := [[48, 32, 48, 32, 49, 32, 48, 32, 45], [49, 32, 49, 32, 49, 32, 48, 32, 58], [50, 32, 52, 32, 50, 32, 48, 32, 45], [53, 32, 53, 32, 49, 32, 48, 32, 45], [98, 32, 98, 32, 49, 32, 48, 32, 45], [99, 32, 100, 32, 51, 32, 48, 32, 45], [101, 32, 101, 32, 52, 32, 48, 32, 45], [102, 32, 102, 32, 49, 32, 48, 32, 45], [49, 48, 32, 49, 48, 32, 53, 32, 48, 32, 45], [49, 49, 32, 49, 49, 32, 54, 32, 48, 32, 45], [49, 97, 32, 49, 98, 32, 49, 32, 48, 32, 45], [50, 48, 32, 50, 52, 32, 53, 32, 48, 32, 45], [50, 56, 32, 50, 56, 32, 55, 32, 50, 32, 105, 58, 105], [50, 57, 32, 50, 57, 32, 55, 32, 51, 32, 105, 58, 108], [50, 99, 32, 50, 100, 32, 55, 32, 48, 32, 105, 58, 105], [50, 101, 32, 50, 102, 32, 55, 32, 49, 32, 105, 58, 105], [51, 48, 32, 51, 49, 32, 55, 32, 48, 32, 105, 58, 108], [51, 50, 32, 51, 51, 32, 55, 32, 49, 32, 105, 58, 108], [51, 52, 32, 51, 53, 32, 55, 32, 50, 32, 105, 58, 108], [51, 54, 32, 51, 54, 32, 55, 32, 50, 32, 105, 105, 58], [51, 55, 32, 51, 55, 32, 55, 32, 51, 32, 105, 108, 58], [51, 97, 32, 51, 97, 32, 55, 32, 48, 32, 105, 105, 58], [51, 98, 32, 51, 98, 32, 55, 32, 49, 32, 105, 105, 58], [51, 99, 32, 51, 99, 32, 55, 32, 48, 32, 105, 108, 58], [51, 100, 32, 51, 100, 32, 55, 32, 49, 32, 105, 108, 58], [51, 101, 32, 51, 101, 32, 55, 32, 50, 32, 105, 108, 58], [51, 102, 32, 51, 102, 32, 49, 52, 32, 48, 32, 58, 105], [52, 48, 32, 52, 48, 32, 49, 52, 32, 48, 32, 105, 58, 105], [52, 49, 32, 52, 49, 32, 57, 32, 48, 32, 58, 105], [52, 50, 32, 52, 50, 32, 49, 48, 32, 48, 32, 58, 108], [52, 53, 32, 52, 53, 32, 49, 32, 48, 32, 105, 58, 105], [52, 54, 32, 52, 102, 32, 49, 32, 48, 32, 105, 105, 58, 105], [53, 48, 32, 53, 48, 32, 49, 32, 48, 32, 108, 58, 105], [53, 49, 32, 53, 97, 32, 49, 32, 48, 32, 108, 108, 58, 105], [54, 55, 32, 54, 57, 32, 49, 32, 48, 32, 105, 58, 105], [54, 97, 32, 55, 56, 32, 49, 32, 48, 32, 105, 105, 58, 105], [55, 57, 32, 55, 98, 32, 49, 32, 48, 32, 108, 58, 108], [55, 99, 32, 56, 97, 32, 49, 32, 48, 32, 108, 108, 58, 108], [97, 55, 32, 97, 55, 32, 49, 32, 48, 32, 108, 58, 105], [97, 99, 32, 97, 100, 32, 49, 32, 48, 32, 105, 58, 108], [99, 48, 32, 99, 49, 32, 49, 32, 48, 32, 105, 58, 105], [99, 50, 32, 99, 52, 32, 49, 32, 48, 32, 108, 58, 108], [102, 100, 48, 48, 32, 102, 100, 48, 48, 32, 55, 32, 52, 32, 105, 58, 118], [102, 100, 48, 49, 32, 102, 100, 48, 54, 32, 55, 32, 51, 32, 105, 58, 118], [102, 100, 48, 55, 32, 102, 100, 48, 55, 32, 55, 32, 48, 32, 105, 58, 118], [102, 100, 48, 56, 32, 102, 100, 48, 56, 32, 55, 32, 49, 32, 105, 58, 118], [102, 100, 48, 57, 32, 102, 100, 48, 57, 32, 55, 32, 50, 32, 105, 58, 118], [102, 100, 48, 97, 32, 102, 100, 48, 97, 32, 55, 32, 51, 32, 105, 58, 118], [102, 100, 48, 98, 32, 102, 100, 48, 98, 32, 55, 32, 52, 32, 105, 118, 58], [102, 100, 48, 99, 32, 102, 100, 48, 99, 32, 49, 49, 32, 48, 32, 58, 118], [102, 100, 48, 100, 32, 102, 100, 48, 100, 32, 49, 50, 32, 48, 32, 118, 118, 58, 118], [102, 100, 48, 101, 32, 102, 100, 48, 101, 32, 49, 32, 48, 32, 118, 118, 58, 118], [102, 100, 48, 102, 32, 102, 100, 49, 49, 32, 49, 32, 48, 32, 105, 58, 118], [102, 100, 49, 50, 32, 102, 100, 49, 50, 32, 49, 32, 48, 32, 108, 58, 118], [102, 100, 49, 53, 32, 102, 100, 49, 54, 32, 49, 51, 32, 49, 54, 32, 118, 58, 105], [102, 100, 49, 55, 32, 102, 100, 49, 55, 32, 49, 51, 32, 49, 54, 32, 118, 105, 58, 118], [102, 100, 49, 56, 32, 102, 100, 49, 57, 32, 49, 51, 32, 56, 32, 118, 58, 105], [102, 100, 49, 97, 32, 102, 100, 49, 97, 32, 49, 51, 32, 56, 32, 118, 105, 58, 118], [102, 100, 49, 98, 32, 102, 100, 49, 98, 32, 49, 51, 32, 52, 32, 118, 58, 105], [102, 100, 49, 99, 32, 102, 100, 49, 99, 32, 49, 51, 32, 52, 32, 118, 105, 58, 118], [102, 100, 49, 100, 32, 102, 100, 49, 100, 32, 49, 51, 32, 50, 32, 118, 58, 108], [102, 100, 49, 101, 32, 102, 100, 49, 101, 32, 49, 51, 32, 50, 32, 118, 108, 58, 118], [102, 100, 50, 51, 32, 102, 100, 52, 48, 32, 49, 32, 48, 32, 118, 118, 58, 118], [102, 100, 52, 100, 32, 102, 100, 52, 100, 32, 49, 32, 48, 32, 118, 58, 118], [102, 100, 52, 101, 32, 102, 100, 53, 49, 32, 49, 32, 48, 32, 118, 118, 58, 118], [102, 100, 53, 50, 32, 102, 100, 53, 50, 32, 49, 32, 48, 32, 118, 118, 118, 58, 118], [102, 100, 53, 51, 32, 102, 100, 53, 51, 32, 49, 32, 48, 32, 118, 58, 105], [102, 100, 53, 52, 32, 102, 100, 53, 52, 32, 56, 32, 48, 32, 105, 118, 58, 118], [102, 100, 53, 53, 32, 102, 100, 53, 53, 32, 56, 32, 49, 32, 105, 118, 58, 118], [102, 100, 53, 54, 32, 102, 100, 53, 54, 32, 56, 32, 50, 32, 105, 118, 58, 118], [102, 100, 53, 55, 32, 102, 100, 53, 55, 32, 56, 32, 51, 32, 105, 118, 58, 118], [102, 100, 53, 56, 32, 102, 100, 53, 56, 32, 56, 32, 48, 32, 105, 118, 58], [102, 100, 53, 57, 32, 102, 100, 53, 57, 32, 56, 32, 49, 32, 105, 118, 58], [102, 100, 53, 97, 32, 102, 100, 53, 97, 32, 56, 32, 50, 32, 105, 118, 58], [102, 100, 53, 98, 32, 102, 100, 53, 98, 32, 56, 32, 51, 32, 105, 118, 58], [102, 100, 53, 99, 32, 102, 100, 53, 99, 32, 55, 32, 50, 32, 105, 58, 118], [102, 100, 53, 100, 32, 102, 100, 53, 100, 32, 55, 32, 51, 32, 105, 58, 118], [102, 100, 54, 48, 32, 102, 100, 54, 50, 32, 49, 32, 48, 32, 118, 58, 118], [102, 100, 54, 51, 32, 102, 100, 54, 52, 32, 49, 32, 48, 32, 118, 58, 105], [102, 100, 54, 53, 32, 102, 100, 54, 54, 32, 49, 32, 48, 32, 118, 118, 58, 118], [102, 100, 54, 98, 32, 102, 100, 54, 100, 32, 49, 32, 48, 32, 118, 105, 58, 118], [102, 100, 54, 101, 32, 102, 100, 55, 51, 32, 49, 32, 48, 32, 118, 118, 58, 118], [102, 100, 55, 54, 32, 102, 100, 55, 57, 32, 49, 32, 48, 32, 118, 118, 58, 118], [102, 100, 55, 98, 32, 102, 100, 55, 98, 32, 49, 32, 48, 32, 118, 118, 58, 118], [102, 100, 55, 99, 32, 102, 100, 56, 49, 32, 49, 32, 48, 32, 118, 58, 118], [102, 100, 56, 50, 32, 102, 100, 56, 50, 32, 49, 32, 48, 32, 118, 118, 58, 118], [102, 100, 56, 51, 32, 102, 100, 56, 52, 32, 49, 32, 48, 32, 118, 58, 105], [102, 100, 56, 53, 32, 102, 100, 56, 54, 32, 49, 32, 48, 32, 118, 118, 58, 118], [102, 100, 56, 55, 32, 102, 100, 56, 97, 32, 49, 32, 48, 32, 118, 58, 118], [102, 100, 56, 98, 32, 102, 100, 56, 100, 32, 49, 32, 48, 32, 118, 105, 58, 118], [102, 100, 56, 101, 32, 102, 100, 57, 51, 32, 49, 32, 48, 32, 118, 118, 58, 118], [102, 100, 57, 53, 32, 102, 100, 57, 57, 32, 49, 32, 48, 32, 118, 118, 58, 118], [102, 100, 57, 98, 32, 102, 100, 57, 102, 32, 49, 32, 48, 32, 118, 118, 58, 118], [102, 100, 97, 48, 32, 102, 100, 97, 49, 32, 49, 32, 48, 32, 118, 58, 118], [102, 100, 97, 51, 32, 102, 100, 97, 52, 32, 49, 32, 48, 32, 118, 58, 105], [102, 100, 97, 55, 32, 102, 100, 97, 97, 32, 49, 32, 48, 32, 118, 58, 118], [102, 100, 97, 98, 32, 102, 100, 97, 100, 32, 49, 32, 48, 32, 118, 105, 58, 118], [102, 100, 97, 101, 32, 102, 100, 97, 101, 32, 49, 32, 48, 32, 118, 118, 58, 118], [102, 100, 98, 49, 32, 102, 100, 98, 49, 32, 49, 32, 48, 32, 118, 118, 58, 118], [102, 100, 98, 53, 32, 102, 100, 98, 97, 32, 49, 32, 48, 32, 118, 118, 58, 118], [102, 100, 98, 99, 32, 102, 100, 98, 102, 32, 49, 32, 48, 32, 118, 118, 58, 118], [102, 100, 99, 48, 32, 102, 100, 99, 49, 32, 49, 32, 48, 32, 118, 58, 118], [102, 100, 99, 51, 32, 102, 100, 99, 52, 32, 49, 32, 48, 32, 118, 58, 105], [102, 100, 99, 55, 32, 102, 100, 99, 97, 32, 49, 32, 48, 32, 118, 58, 118], [102, 100, 99, 98, 32, 102, 100, 99, 100, 32, 49, 32, 48, 32, 118, 105, 58, 118], [102, 100, 99, 101, 32, 102, 100, 99, 101, 32, 49, 32, 48, 32, 118, 118, 58, 118], [102, 100, 100, 49, 32, 102, 100, 100, 49, 32, 49, 32, 48, 32, 118, 118, 58, 118], [102, 100, 100, 53, 32, 102, 100, 100, 102, 32, 49, 32, 48, 32, 118, 118, 58, 118]]
def allR : List Row := scalarsR ++ vectorsR
def row1 (r : Row) : List V := [.int .i64 r.1, .int .i64 r.2.1, .int .i64 r.2.2.1, .int .i64 r.2.2.2.1, .str r.2.2.2.2]
def rowC : List Row -> List V
  | [] => []
  | r :: l => row1 r ++ rowC l
def nRow : Row := (0, 0, 0, 0, [])
theorem rowC_len (l : List Row) : (rowC l).length = l.length * 5 := by
  induction l with
  | nil => rfl
  | cons x l ih => rw [rowC, List.length_append, ih, List.length_cons]; show 5 + _ = _; omega
theorem rowC_drop {l : List Row} {k : Nat} (hk : k < l.length) : (rowC l).drop (k * 5) = row1 (l.getD k nRow) ++ rowC (l.drop (k + 1)) := by
  induction l generalizing k with
  | nil => exact absurd hk (Nat.not_lt_zero _)
  | cons x l ih =>
    cases k with
    | zero => simp [rowC]
    | succ k =>
      rw [rowC, show (k + 1) * 5 = (row1 x).length + k * 5 from by show _ = 5 + _; omega, List.drop_append, List.drop_of_length_le (by omega), List.nil_append, Nat.add_sub_cancel_left, ih (by simpa using hk)]
      simp
theorem row_load {l : List Row} {k : Nat} (hk : k < l.length) : List.take 5 (List.drop (k * 5) (rowC l)) = row1 (l.getD k nRow) := by
  rw [rowC_drop hk]; rfl
theorem row_room {l : List Row} {k : Nat} (hk : k < l.length) : 5 <= (List.drop (k * 5) (rowC l)).length := by
  rw [rowC_drop hk, List.length_append]; show 5 <= 5 + _; omega
def findR (op : Int) : List Row -> Option Row
  | [] => none
  | r :: l => if op < r.1 \/ op > r.2.1 then findR op l else some r
theorem findR_app (op : Int) (a b : List Row) : findR op (a ++ b) = (findR op a).or (findR op b) := by
  induction a with
  | nil => rfl
  | cons r a ih =>
    rw [List.cons_append, findR, findR]; split
    · exact ih
    · rfl
theorem findR_out (op : Int) {a : List Row} (h : ∀ r ∈ a, op < r.1 \/ op > r.2.1) : findR op a = none := by
  induction a with
  | nil => rfl
  | cons r a ih => rw [findR, if_pos (h r (List.mem_cons_self ..)), ih (fun x hx => h x (List.mem_cons_of_mem _ hx))]
theorem findR_mem {op : Int} {a : List Row} {r : Row} (h : findR op a = some r) : r ∈ a /\ r.1 <= op /\ op <= r.2.1 := by
  induction a with
  | nil => cases h
  | cons x a ih =>
    rw [findR] at h; split at h
    · exact ⟨List.mem_cons_of_mem _ (ih h).1, (ih h).2⟩
    · cases h; exact ⟨List.mem_cons_self .., by omega, by omega⟩
theorem findR_at {op : Int} {l : List Row} {k : Nat} (hk : k < l.length) (h : ∀ j, j < k -> op < (l.getD j nRow).1 \/ op > (l.getD j nRow).2.1) (h2 : ¬ (op < (l.getD k nRow).1 \/ op > (l.getD k nRow).2.1)) : findR op l = some (l.getD k nRow) := by
  induction l generalizing k with
  | nil => exact absurd hk (Nat.not_lt_zero _)
  | cons r l ih =>
    cases k with
    | zero =>
      have h2 : ¬ (op < r.1 \/ op > r.2.1) := h2
      rw [findR, if_neg h2]; rfl
    | succ k =>
      have h0 : op < r.1 \/ op > r.2.1 := h 0 (Nat.succ_pos _)
      rw [findR, if_pos h0]
      exact ih (by simpa using hk) (fun j hj => h (j + 1) (by omega)) h2
theorem findR_none {op : Int} {l : List Row} (h : ∀ j, j < l.length -> op < (l.getD j nRow).1 \/ op > (l.getD j nRow).2.1) : findR op l = none := by
  apply findR_out
  intro r hr
  obtain ⟨j, hj, rfl⟩ := List.mem_iff_getElem.1 hr
  have := h j hj
  rw [show l.getD j nRow = l[j] from by simp [List.getD, hj]] at this
  exact this
def tyOf (c : Int) : Int := if c = 108 then 126 else if c = 118 then 123 else 127
def byts (s : List UInt8) : List Int := s.map fun c => (c.toNat : Int)
theorem byts_len (s : List UInt8) : (byts s).length = s.length := by simp [byts]
theorem byts_V (s : List UInt8) : s.map byteV = nums .u8 (byts s) := by simp [byts, nums, byteV]
theorem byts_at (s : List UInt8) (k : Nat) : (byts s).getD k 0 = ((s.getD k 0).toNat : Int) := by
  simp only [byts, List.getD_eq_getElem?_getD, List.getElem?_map]
  cases s[k]? <;> rfl
abbrev SigS := Bool × List Int × List Int
def sig1 (s : SigS) (c : Int) : SigS := if c = 58 then (true, s.2.1, s.2.2) else if s.1 = true then (true, s.2.1, s.2.2 ++ [tyOf c]) else (false, s.2.1 ++ [tyOf c], s.2.2)
def sigS (l : List Int) : SigS := l.foldl sig1 (false, [], [])
theorem sigS_snoc (l : List Int) (c : Int) : sigS (l ++ [c]) = sig1 (sigS l) c := by unfold sigS; rw [List.foldl_append]; rfl
theorem take_succ_getD {l : List Int} {k : Nat} (h : k < l.length) : l.take (k + 1) = l.take k ++ [l.getD k 0] := by
  rw [List.take_succ_eq_append_getElem h]; simp [List.getD, h]
theorem sigS_len (l : List Int) : (sigS l).2.1.length + (sigS l).2.2.length <= l.length := by
  have : ∀ k, k <= l.length -> (sigS (l.take k)).2.1.length + (sigS (l.take k)).2.2.length <= k := by
    intro k
    induction k with
    | zero => intro _; simp [sigS]
    | succ k ih =>
      intro hk
      have := ih (by omega)
      rw [take_succ_getD hk, sigS_snoc]
      generalize sigS (l.take k) = z at this
      obtain ⟨o, a, b⟩ := z
      simp only at this
      unfold sig1
      split
      · show a.length + b.length <= k + 1; omega
      · split
        · show a.length + (b ++ [_]).length <= k + 1
          simp only [List.length_append, List.length_cons, List.length_nil]; omega
        · show (a ++ [_]).length + b.length <= k + 1
          simp only [List.length_append, List.length_cons, List.length_nil]; omega
  have h := this l.length (Nat.le_refl _)
  rw [List.take_length] at h; exact h
abbrev InfoS := Int × Int × Bool × List Int × List Int
def infoOf (r : Row) : InfoS := (r.2.2.1, r.2.2.2.1, !r.2.2.2.2.isEmpty, (sigS (byts r.2.2.2.2)).2.1, (sigS (byts r.2.2.2.2)).2.2)
def partR (op : Int) : List Row := if op >= 64768 then vectorsR else scalarsR
theorem part_all (op : Int) : findR op (partR op) = findR op allR := by
  unfold partR allR
  rw [findR_app]
  split
  · rename_i h
    have hs : scalarsR.all (fun r => decide (r.2.1 < 64768)) = true := by decide +kernel
    rw [findR_out op (a := scalarsR)]
    · rfl
    · intro r hr
      have := of_decide_eq_true (List.all_eq_true.1 hs r hr)
      omega
  · rename_i h
    have hv : vectorsR.all (fun r => decide (r.1 >= 64768)) = true := by decide +kernel
    rw [findR_out op (a := vectorsR)]
    · cases findR op scalarsR <;> rfl
    · intro r hr
      have := of_decide_eq_true (List.all_eq_true.1 hv r hr)
      omega
def infoV (i : InfoS) : V := .agg [.int .i64 i.1, .int .i64 i.2.1, .bool i.2.2.1, .ref 3003 0 i.2.2.2.1.length 1, .ref 3004 0 i.2.2.2.2.length 1]
def noInfo : InfoS := (0, 0, false, [], [])
def ofS (op : Int) : InfoS × Bool := match findR op allR with
  | some r => (infoOf r, true)
  | none => (noInfo, false)
def strC (l : List (List UInt8)) : List V := l.map .str
theorem strC_len (l : List (List UInt8)) : (strC l).length = l.length := by simp [strC]
theorem strC_at {l : List (List UInt8)} {k : Nat} (h : k < l.length) : (strC l).getD k .any = .str (l.getD k []) := by
  simp [strC, List.getD_eq_getElem?_getD, List.getElem?_map, List.getElem?_eq_getElem h]
end Go.Proofs.Yteppkbaeacndiaa
namespace Go.Proofs.Yteppkbaeacndiaa
set_option maxRecDepth 20000
open Go Go.Abs
def uRd (bits : Int) : List Int -> Nat -> Int -> Int -> Int × Int × Int
  | [], _, _, _ => (0, 0, 5)
  | x :: l, done, n, at_ =>
    if (bits - done < 7 /\ (x % 128) / 2 ^ (bits - done).toNat ≠ 0) \/ (bits - done <= 7 /\ x >= 128) then (0, 0, 6)
    else if x < 128 then (n + x % 128 * 2 ^ done, at_ + 1, 0) else uRd bits l (done + 7) (n + x % 128 * 2 ^ done) (at_ + 1)
def uSpec (xs : List Int) (at_ bits : Int) : Int × Int × Int :=
  if bits < 1 \/ bits > 64 \/ at_ < 0 \/ at_ > xs.length then (0, 0, 1) else uRd bits (xs.drop at_.toNat) 0 0 at_
def sx (x : Int) : Int := if x % 128 >= 64 then x % 128 - 128 else x % 128
def sext (m : Nat) (v : Int) : Int := if v < 2 ^ (m - 1) then v else v - 2 ^ m
def sRd (bits : Int) : List Int -> Nat -> Int -> Int -> Int × Int × Int
  | [], _, _, _ => (0, 0, 5)
  | x :: l, done, n, at_ =>
    if bits - done <= 7 /\ ((sx x / 2 ^ (bits - done - 1).toNat ≠ 0 /\ sx x / 2 ^ (bits - done - 1).toNat ≠ -1) \/ x >= 128) then (0, 0, 6)
    else if x < 128 then (sext (done + 7) (n + x % 128 * 2 ^ done), at_ + 1, 0) else sRd bits l (done + 7) (n + x % 128 * 2 ^ done) (at_ + 1)
def sSpec (xs : List Int) (at_ bits : Int) : Int × Int × Int :=
  if bits < 1 \/ bits > 64 \/ at_ < 0 \/ at_ > xs.length then (0, 0, 1) else sRd bits (xs.drop at_.toNat) 0 0 at_
def byte (x : Int) : Prop := 0 <= x /\ x <= 255
def bytes (l : List Int) : Prop := ∀ x ∈ l, byte x
theorem pow_lt_mul {v low : Int} {s m : Nat} (hv0 : 0 <= v) (hv : v < 2 ^ s) (hl0 : 0 <= low) (hl : low < 2 ^ m) : 0 <= v + low * 2 ^ s /\ v + low * 2 ^ s < 2 ^ (s + m) := by
  have hp : (0 : Int) < 2 ^ s := Int.pow_pos (by decide)
  have h1 : 0 <= low * 2 ^ s := Int.mul_nonneg hl0 (by omega)
  have h2 : (low + 1) * 2 ^ s <= 2 ^ m * 2 ^ s := Int.mul_le_mul_of_nonneg_right (by omega) (by omega)
  rw [Int.add_mul, Int.one_mul] at h2
  rw [Int.pow_add, Int.mul_comm (2 ^ s)]
  omega
theorem low_lt {bits : Int} {k : Nat} {low : Int} (hkb : 7 * (k : Int) < bits) (h0 : 0 <= low) (h1 : low < 128) (hl : bits - 7 * k < 7 -> low / 2 ^ (bits - 7 * k).toNat = 0) : low < 2 ^ (min 7 (bits - 7 * k).toNat) := by
  by_cases h : bits - 7 * k < 7
  · have := hl h
    rw [Nat.min_eq_right (by omega)]
    have hp : (0 : Int) < 2 ^ (bits - 7 * k).toNat := Int.pow_pos (by decide)
    have h2 := Int.lt_ediv_add_one_mul_self low hp
    rw [this] at h2
    omega
  · rw [Nat.min_eq_left (by omega)]; exact h1
theorem step_or {bits : Int} {k : Nat} {v low : Int} (hb : bits <= 64) (hkb : 7 * (k : Int) < bits) (hv0 : 0 <= v) (hv : v < 2 ^ (7 * k)) (h0 : 0 <= low) (h1 : low < 128) (hl : bits - 7 * k < 7 -> low / 2 ^ (bits - 7 * k).toNat = 0) :
    bitsOp .or .u64 v (IntKind.u64.wrap (low * 2 ^ (7 * k))) = v + low * 2 ^ (7 * k) /\ 0 <= v + low * 2 ^ (7 * k) /\ v + low * 2 ^ (7 * k) < 2 ^ (7 * k + 7) := by
  have hlt := low_lt hkb h0 h1 hl
  have h2 := pow_lt_mul hv0 hv h0 hlt
  have hp : (0 : Int) < 2 ^ (7 * k) := Int.pow_pos (by decide)
  have hn : 0 <= low * 2 ^ (7 * k) := Int.mul_nonneg h0 (by omega)
  have h3 : (2 : Int) ^ (7 * k + min 7 (bits - 7 * k).toNat) <= 2 ^ 64 := by exact_mod_cast Nat.pow_le_pow_right (by decide) (by omega)
  have h4 : (2 : Int) ^ (7 * k + min 7 (bits - 7 * k).toNat) <= 2 ^ (7 * k + 7) := by exact_mod_cast Nat.pow_le_pow_right (by decide) (by omega)
  rw [wrap_in (k := .u64) rfl hn (by show _ < (2 : Int) ^ 64; omega)]
  refine ⟨or_add (k := .u64) (7 * k) hv0 hv h0 (by show _ < (2 : Int) ^ 64; omega) (.inl rfl), h2.1, by omega⟩
theorem sx_n : ∀ n : Fin 256, (IntKind.i8.wrap (IntKind.u8.wrap ((n.val : Int) * 2 ^ min (Int.toNat 1) IntKind.u8.bits))).fdiv (2 ^ min (Int.toNat 1) IntKind.i8.bits) = sx (n.val : Int) := by decide +kernel
theorem sx_of {x : Int} (h : byte x) : (IntKind.i8.wrap (IntKind.u8.wrap (x * 2 ^ min (Int.toNat 1) IntKind.u8.bits))).fdiv (2 ^ min (Int.toNat 1) IntKind.i8.bits) = sx x := by
  obtain ⟨h0, h1⟩ := h
  have := sx_n ⟨x.toNat, by omega⟩
  simp only [Int.toNat_of_nonneg h0] at this
  exact this
theorem shr8 (y n : Int) (h : n <= 8) : y.fdiv (2 ^ min n.toNat IntKind.i8.bits) = y / 2 ^ n.toNat := by
  rw [Nat.min_eq_left (by show _ <= 8; omega)]
  exact Int.fdiv_eq_ediv_of_nonneg _ (Int.le_of_lt (Int.pow_pos (by decide)))
theorem getD_mem {l : List Int} {k : Nat} (h : k < l.length) : l.getD k 0 ∈ l := by
  rw [List.getD_eq_getElem?_getD, List.getElem?_eq_getElem h]; exact List.getElem_mem h
theorem drop_getD {l : List Int} {k : Nat} (h : k < l.length) : l.drop k = l.getD k 0 :: l.drop (k + 1) := by
  rw [List.drop_eq_getElem_cons h]; simp [List.getD, h]
end Go.Proofs.Yteppkbaeacndiaa
namespace Go.Proofs.Yteppkbaeacndiaa
set_option maxRecDepth 20000
open Go Go.Abs
def putU (n : Nat) : List Int := if n < 128 then [(n : Int)] else ((n : Int) % 128 + 128) :: putU (n / 128)
termination_by n
def putS (n : Int) : List Int := if -64 <= n /\ n <= 63 then [n % 128] else (n % 128 + 128) :: putS (n / 128)
termination_by n.natAbs
def putUs : List Int -> List Int
  | [] => []
  | x :: l => putU x.toNat ++ putUs l
def putSs : List Int -> List Int
  | [] => []
  | x :: l => putS x ++ putSs l
theorem putU_small {n : Nat} (h : n < 128) : putU n = [(n : Int)] := by rw [putU, if_pos h]
theorem putU_big {n : Nat} (h : ¬n < 128) : putU n = ((n : Int) % 128 + 128) :: putU (n / 128) := by rw [putU, if_neg h]
theorem putS_small {n : Int} (h : -64 <= n /\ n <= 63) : putS n = [n % 128] := by rw [putS, if_pos h]
theorem putS_big {n : Int} (h : ¬(-64 <= n /\ n <= 63)) : putS n = (n % 128 + 128) :: putS (n / 128) := by rw [putS, if_neg h]
theorem putUs_append (a b : List Int) : putUs (a ++ b) = putUs a ++ putUs b := by
  induction a with
  | nil => rfl
  | cons x a ih => simp [putUs, ih]
theorem putSs_append (a b : List Int) : putSs (a ++ b) = putSs a ++ putSs b := by
  induction a with
  | nil => rfl
  | cons x a ih => simp [putSs, ih]
theorem putU_len (j n : Nat) (h : n < 2 ^ (7 * (j + 1))) : (putU n).length <= j + 1 := by
  induction j generalizing n with
  | zero => rw [putU_small (by simpa using h)]; simp
  | succ j ih =>
    by_cases hn : n < 128
    · rw [putU_small hn]; simp
    · rw [putU_big hn, List.length_cons]
      have := ih (n / 128) (by
        rw [show 7 * (j + 1 + 1) = 7 * (j + 1) + 7 from by omega, Nat.pow_add] at h
        exact Nat.div_lt_of_lt_mul (by rw [Nat.mul_comm]; exact h))
      omega
theorem putS_len (j : Nat) (n : Int) (h : -(2 ^ (7 * j) * 64) <= n /\ n < 2 ^ (7 * j) * 64) : (putS n).length <= j + 1 := by
  induction j generalizing n with
  | zero => rw [putS_small (by simp at h; omega)]; simp
  | succ j ih =>
    by_cases hn : -64 <= n /\ n <= 63
    · rw [putS_small hn]; simp
    · rw [putS_big hn, List.length_cons]
      have := ih (n / 128) (by
        rw [show 7 * (j + 1) = 7 * j + 7 from by omega, Int.pow_add] at h
        generalize (2 : Int) ^ (7 * j) = P at h ⊢
        omega)
      omega
theorem putUs_len (l : List Int) (h : ∀ x ∈ l, 0 <= x /\ x < 2 ^ 64) : (putUs l).length <= 10 * l.length := by
  induction l with
  | nil => exact Nat.le_refl _
  | cons x l ih =>
    have h1 := ih (fun y hy => h y (List.mem_cons_of_mem _ hy))
    have h2 := h x (List.mem_cons_self ..)
    have h3 := putU_len 9 x.toNat (by simp; omega)
    simp only [putUs, List.length_append, List.length_cons]; omega
theorem putSs_len (l : List Int) (h : ∀ x ∈ l, -2 ^ 63 <= x /\ x < 2 ^ 63) : (putSs l).length <= 10 * l.length := by
  induction l with
  | nil => exact Nat.le_refl _
  | cons x l ih =>
    have h1 := ih (fun y hy => h y (List.mem_cons_of_mem _ hy))
    have h2 := h x (List.mem_cons_self ..)
    have h3 := putS_len 9 x (by simp only [Nat.reduceMul, Int.reducePow, Int.reduceMul]; omega)
    simp only [putSs, List.length_append, List.length_cons]; omega
theorem putU_bytes (n : Nat) : bytes (putU n) := by
  induction n using Nat.strongRecOn with
  | ind n ih =>
    by_cases hn : n < 128
    · rw [putU_small hn]; intro x hx; rw [List.mem_singleton] at hx; subst hx; exact ⟨by omega, by omega⟩
    · rw [putU_big hn]; intro x hx
      rcases List.mem_cons.1 hx with rfl | hx
      · exact ⟨by omega, by omega⟩
      · exact ih _ (by omega) x hx
theorem putS_bytes (n : Int) : bytes (putS n) := by
  induction h : n.natAbs using Nat.strongRecOn generalizing n with
  | ind k ih =>
    by_cases hn : -64 <= n /\ n <= 63
    · rw [putS_small hn]; intro x hx; rw [List.mem_singleton] at hx; subst hx; exact ⟨by omega, by omega⟩
    · rw [putS_big hn]; intro x hx
      rcases List.mem_cons.1 hx with rfl | hx
      · exact ⟨by omega, by omega⟩
      · exact ih (n / 128).natAbs (by omega) _ rfl x hx
theorem and_i127 (x : Int) : bitsOp .and .i64 x 127 = x % 128 := by
  simp only [bitsOp]
  rw [BitVec.toNat_and, show (BitVec.ofInt IntKind.i64.bits 127).toNat = 2 ^ 7 - 1 from by decide, Nat.and_two_pow_sub_one_eq_mod, BitVec.toNat_ofInt]
  show IntKind.i64.wrap (((x % (2 ^ 64 : Nat)).toNat % 2 ^ 7 : Nat) : Int) = _
  rw [Go.Abs.wrap_small (by omega) (by show _ < (2 : Int) ^ 63; omega)]
  omega
theorem shr7 {k : IntKind} (x : Int) (h : 7 <= k.bits) : x.fdiv (2 ^ min (Int.toNat 7) k.bits) = x / 128 := by
  rw [show (Int.toNat 7) = 7 from rfl, Nat.min_eq_left h]
  exact Int.fdiv_eq_ediv_of_nonneg _ (by decide)
theorem lowByte (x : Int) : bitsOp .or .u8 (IntKind.u8.wrap x) 128 = x % 128 + 128 := by
  rw [wrap_unsigned (k := .u8) rfl, or_128 (by show 0 <= x % 256; omega) (by show x % 256 <= 255; omega)]
  show x % 256 % 128 + 128 = _
  omega
end Go.Proofs.Yteppkbaeacndiaa
namespace Go.Proofs.Yteppkbaeacndiaa
set_option maxRecDepth 20000
open Go Go.Abs Nat
attribute [local irreducible] AW AWL AC FW CW CWr IntKind.wrap
def S11 (xs : List Int) (bits at_ done n : Int) : St :=
  { n := 73, slots := [(0, .view xs.length 1 (nums .u8 xs)), (1, .int .i64 at_), (2, .int .i64 bits), (9, .int .u64 n), (10, .int .i64 done)], mem := [] }
theorem MU.NM : type_of% @NSX /\ type_of% @St.keepS.eq_1 /\ type_of% @TY /\ type_of% @SLS /\ type_of% @nums_length /\ type_of% @S11.eq_1 :=
  ⟨NSX, St.keepS.eq_1, @TY, @SLS, @nums_length, @S11.eq_1⟩
open MU
theorem K1U.kp {P : Program} {c : Code} {Q : Exit -> St -> Prop} {st : St} (h : AW P c Q (st.keepS [0, 1, 2, 6, 7, 8, 9, 10, 11, 12, 13])) : AW P c Q st := AW.keepS _ h
theorem K1U.sd {p : Prop} (h : p := by first | exact sd7e6d25) : p := h
open K1U in
set_option maxRecDepth 4000 in
set_option maxHeartbeats 1000000 in
theorem u_ok (xs : List Int) (hb : bytes xs) (hlen : xs.length <= 1000000000000000) (at_ bits : Int) :
    AC Try.prog 50 [.view xs.length 1 (nums .u8 xs), .int .i64 at_, .int .i64 bits] (fun r m => r = .tup [.int .u64 (uSpec xs at_ bits).1, .int .i64 (uSpec xs at_ bits).2.1, .int .i64 (uSpec xs at_ bits).2.2] /\ m = []) := by
  refine AC.enter Try.func50 rfl (Nat.le_of_ble_eq_true rfl) ?_
  simp only [Try.f50]
  have nx : True := trivial
  refine' st518d76
  · refine ⟨?_, trivial⟩; rw [uSpec, if_pos (by omega)]
  · obtain ⟨a0, rfl⟩ : ∃ a0 : Nat, at_ = a0 := ⟨at_.toNat, by omega⟩
    have hsp : uSpec xs a0 bits = uRd bits (xs.drop a0) 0 0 a0 := by rw [uSpec, if_neg (by omega), Int.toNat_natCast]
    refine AW.loop [0, 1, 2, 9, 10] [] (fun n st => ∃ (k a : Nat) (v : Int), st = S11 xs bits a (7 * k) v /\ a <= xs.length /\ n = xs.length - a /\ 7 * (k : Int) < bits /\ 0 <= v /\ v < 2 ^ (7 * k) /\ uSpec xs a0 bits = uRd bits (xs.drop a) (7 * k) v a) ?_ ?_
    · exact ⟨_, 0, a0, 0, rfl, by omega, rfl, by omega, by decide, by decide, hsp⟩
    · rintro n st ⟨k, a, v, rfl, ha, rfl, hkb, hv0, hv1, hs⟩
      by_cases hal : a < xs.length
      · have hx := hb _ (getD_mem hal)
        have hA := and_127 hx.1 hx.2
        have hB : IntKind.u64.wrap (xs.getD a 0 % 128) = xs.getD a 0 % 128 := wrap_in rfl (by omega) (by show _ < (18446744073709551616 : Int); omega)
        rw [drop_getD hal] at hs
        simp only [uRd] at hs
        have hF : (xs.getD a 0 % 128).fdiv (2 ^ min (bits - 7 * (k : Int)).toNat IntKind.u64.bits) = (xs.getD a 0 % 128) / 2 ^ (bits - 7 * (k : Int)).toNat := by
          rw [show min (bits - 7 * (k : Int)).toNat IntKind.u64.bits = (bits - 7 * (k : Int)).toNat from Nat.min_eq_left (by show _ <= 64; omega), fdiv_pow _ _ (by omega)]
        have hM : min (7 * (k : Int)).toNat IntKind.u64.bits = 7 * k := by
          rw [Nat.min_eq_left (by show _ <= 64; omega)]; omega
        have hor := fun h => step_or (k := k) (low := xs.getD a 0 % 128) (by omega) hkb hv0 hv1 (by omega) (by omega) h
        have e7 : (2 : Int) ^ (7 * k + 7) = 2 ^ (7 * (k + 1)) := by rw [Nat.mul_succ]
        have nx : type_of% @hA /\ type_of% @hB /\ type_of% @hF /\ type_of% @hM /\ type_of% @wrap64_id /\ True := ⟨@hA, ⟨@hB, ⟨@hF, ⟨@hM, ⟨@wrap64_id, trivial⟩⟩⟩⟩⟩
        refine' st518d76
        all_goals try simp (disch := omega) only [NM, Nat.reduceBEq, reduceAdd, reduceMul, Int.reduceToNat, reduceSub, List.set_cons_zero, List.set_cons_succ, hA, hB, hF, hM, wrap64_id]
        · rw [hs, if_pos (.inr ⟨by omega, by assumption⟩)]; exact ⟨rfl, trivial⟩
        · have ho := hor (fun _ => by assumption)
          rw [hs, if_neg (by rintro (⟨_, h⟩ | ⟨_, h⟩) <;> first | (exact h (by assumption)) | omega), if_pos (by assumption), ho.1]; exact ⟨rfl, trivial⟩
        · rw [hs, if_pos (.inl ⟨by omega, by assumption⟩)]; exact ⟨rfl, trivial⟩
        · rw [hs, if_pos (.inr ⟨by omega, by assumption⟩)]; exact ⟨rfl, trivial⟩
        · have ho := hor (fun _ => by omega)
          rw [hs, if_neg (by rintro (⟨_, h⟩ | ⟨_, h⟩) <;> omega), if_pos (by assumption), ho.1]; exact ⟨rfl, trivial⟩
        · have ho := hor (fun _ => by omega)
          rw [hs, if_neg (by rintro (⟨_, h⟩ | ⟨_, h⟩) <;> omega), if_pos (by assumption), ho.1]; exact ⟨rfl, trivial⟩
        · have ho := hor (fun _ => by omega)
          rw [if_neg (by rintro (⟨_, h⟩ | ⟨_, h⟩) <;> omega), if_neg (by omega)] at hs
          refine ⟨xs.length - (a + 1), by omega, k + 1, a + 1, v + xs.getD a 0 % 128 * 2 ^ (7 * k), ?_, by omega, rfl, by omega, ho.2.1, by rw [<- e7]; exact ho.2.2, hs⟩
          rw [ho.1, show (7 * ((k + 1 : Nat) : Int)) = 7 * k + 7 from by omega]; rfl
      · have nx : True := trivial
        refine' st518d76
        all_goals try simp (disch := omega) only [NM, Nat.reduceBEq, reduceAdd, reduceMul, Int.reduceToNat, reduceSub, List.set_cons_zero, List.set_cons_succ]
        · rw [List.drop_of_length_le (by omega)] at hs
          rw [hs]; exact ⟨rfl, trivial⟩
        all_goals (exfalso; omega)
  all_goals (refine ⟨?_, trivial⟩; rw [uSpec, if_pos (by omega)])
end Go.Proofs.Yteppkbaeacndiaa
namespace Go.Proofs.Yteppkbaeacndiaa
set_option maxRecDepth 20000
open Go Go.Abs Nat
theorem wrap64_of {x : Int} (h0 : 0 <= x) (h1 : x < 18446744073709551616) : IntKind.i64.wrap x = if x < 9223372036854775808 then x else x - 18446744073709551616 := by
  have e : x % 18446744073709551616 = x := Int.emod_eq_of_lt h0 h1
  show (if (true && decide (x % 18446744073709551616 >= 9223372036854775808)) = true then x % 18446744073709551616 - 18446744073709551616 else x % 18446744073709551616) = _
  rw [e]
  by_cases h : x < 9223372036854775808
  · rw [if_neg (by simp; omega), if_pos h]
  · rw [if_pos (by simp; omega), if_neg h]
theorem or64 {k : Nat} (hk : k <= 8) {v low : Int} (hv0 : 0 <= v) (hv : v < 2 ^ (7 * k)) (h0 : 0 <= low) (h1 : low < 128) :
    bitsOp .or .i64 v (IntKind.i64.wrap (low * 2 ^ (7 * k))) = v + low * 2 ^ (7 * k) /\ 0 <= v + low * 2 ^ (7 * k) /\ v + low * 2 ^ (7 * k) < 2 ^ (7 * k + 7) := by
  have h2 := pow_lt_mul hv0 hv h0 (m := 7) h1
  have hp : (0 : Int) < 2 ^ (7 * k) := Int.pow_pos (by decide)
  have hn : 0 <= low * 2 ^ (7 * k) := Int.mul_nonneg h0 (by omega)
  have h3 : (2 : Int) ^ (7 * k + 7) <= 2 ^ 63 := by exact_mod_cast Nat.pow_le_pow_right (by decide) (by omega)
  rw [Go.Abs.wrap_small (k := .i64) hn (by show _ < (2 : Int) ^ 63; omega)]
  exact ⟨or_add (k := .i64) (7 * k) hv0 hv h0 (by show _ < (2 : Int) ^ 64; omega) (.inr (by show _ < (2 : Int) ^ 63; omega)), h2⟩
theorem sgn_step {k : Nat} (hk : k <= 8) {v low : Int} (hv0 : 0 <= v) (hv : v < 2 ^ (7 * k)) (h0 : 0 <= low) (h1 : low < 128) :
    (IntKind.i64.wrap (bitsOp .or .i64 v (IntKind.i64.wrap (low * 2 ^ (7 * k))) * 2 ^ min (if 0 < 57 - 7 * (k : Int) then 57 - 7 * (k : Int) else 0).toNat IntKind.i64.bits)).fdiv (2 ^ min (if 0 < 57 - 7 * (k : Int) then 57 - 7 * (k : Int) else 0).toNat IntKind.i64.bits) = sext (7 * k + 7) (v + low * 2 ^ (7 * k)) := by
  obtain ⟨e, g0, g1⟩ := or64 hk hv0 hv h0 h1
  rw [e]
  generalize v + low * 2 ^ (7 * k) = N at g0 g1
  have hs : min (if 0 < 57 - 7 * (k : Int) then 57 - 7 * (k : Int) else 0).toNat IntKind.i64.bits = 57 - 7 * k := by
    rw [show IntKind.i64.bits = 64 from rfl]; split <;> omega
  rw [hs]
  clear e hs hv hv0 h0 h1
  have : k = 0 \/ k = 1 \/ k = 2 \/ k = 3 \/ k = 4 \/ k = 5 \/ k = 6 \/ k = 7 \/ k = 8 := by omega
  rcases this with rfl | rfl | rfl | rfl | rfl | rfl | rfl | rfl | rfl <;>
    (simp only [Nat.reduceMul, Nat.reduceAdd, Nat.reduceSub, Int.reducePow] at g1 ⊢
     rw [wrap64_of (by omega) (by omega), Int.fdiv_eq_ediv_of_nonneg _ (by decide)]
     simp only [sext, Nat.reduceSub, Int.reducePow]
     split <;> split <;> omega)
theorem or_top : ∀ v : Int, 0 <= v -> v < 2 ^ 63 -> bitsOp .or .i64 v (-9223372036854775808) = v - 9223372036854775808 := by
  intro v h0 h1
  simp only [bitsOp]
  rw [BitVec.toNat_or, ofInt_toNat h0 (by show _ < (2 : Int) ^ 64; omega), show (BitVec.ofInt IntKind.i64.bits (-9223372036854775808)).toNat = 1 * 2 ^ 63 from by decide, Nat.or_comm]
  have e := Nat.shiftLeft_add_eq_or_of_lt (b := v.toNat) (i := 63) (by omega) 1
  rw [Nat.shiftLeft_eq] at e
  rw [<- e, wrap64_of (by omega) (by omega), if_neg (by omega)]
  omega
theorem sgn_last {v low : Int} (hv0 : 0 <= v) (hv : v < 2 ^ (7 * 9)) (h : low = 0 \/ low = 127) :
    (IntKind.i64.wrap (bitsOp .or .i64 v (IntKind.i64.wrap (low * 2 ^ (7 * 9))) * 2 ^ min (if 0 < 57 - 7 * ((9 : Nat) : Int) then 57 - 7 * ((9 : Nat) : Int) else 0).toNat IntKind.i64.bits)).fdiv (2 ^ min (if 0 < 57 - 7 * ((9 : Nat) : Int) then 57 - 7 * ((9 : Nat) : Int) else 0).toNat IntKind.i64.bits) = sext (7 * 9 + 7) (v + low * 2 ^ (7 * 9)) := by
  rw [if_neg (by decide), show min (Int.toNat 0) IntKind.i64.bits = 0 from rfl]
  simp only [Nat.reduceMul, Nat.reduceAdd, Int.reducePow, Int.mul_one, Int.fdiv_one] at hv ⊢
  rcases h with rfl | rfl
  · rw [Int.zero_mul, show IntKind.i64.wrap 0 = 0 from rfl, show bitsOp .or .i64 v 0 = v from ?_, wrap64_of (by omega) (by omega), if_pos (by omega), sext, if_pos (by simp only [Nat.reduceSub, Int.reducePow]; omega)]
    · omega
    · have := or_add (k := .i64) (a := v) (b := 0) 63 hv0 (by simp only [Int.reducePow]; omega) (by decide) (by show _ < (2 : Int) ^ 64; simp only [Int.reducePow]; omega) (.inr (by show _ < (2 : Int) ^ 63; simp only [Int.reducePow]; omega))
      simpa using this
  · rw [show IntKind.i64.wrap (127 * 9223372036854775808) = -9223372036854775808 from by decide, or_top v hv0 (by simp only [Int.reducePow]; omega), wrap64_id _ (by omega) (by omega), sext, if_neg (by simp only [Nat.reduceSub, Int.reducePow]; omega)]
    simp only [Int.reducePow]; omega
theorem sx_low {bits : Int} {k : Nat} {x : Int} (hb : bits <= 64) (hk : 7 * (k : Int) < bits) (h9 : ¬k <= 8) (h : bits - 7 * k <= 7 -> sx x / 2 ^ (bits - 7 * k - 1).toNat = 0 \/ sx x / 2 ^ (bits - 7 * k - 1).toNat = -1) : k = 9 /\ (x % 128 = 0 \/ x % 128 = 127) := by
  obtain rfl : k = 9 := by omega
  obtain rfl : bits = 64 := by omega
  have := h (by decide)
  rw [show ((64 : Int) - 7 * ((9 : Nat) : Int) - 1).toNat = 0 from rfl, Int.pow_zero, Int.ediv_one] at this
  refine ⟨rfl, ?_⟩
  revert this
  unfold sx
  split <;> omega
theorem sgn_all {bits : Int} {k : Nat} {x v : Int} (hb : bits <= 64) (hk : 7 * (k : Int) < bits) (hv0 : 0 <= v) (hv : v < 2 ^ (7 * k)) (h : bits - 7 * k <= 7 -> sx x / 2 ^ (bits - 7 * k - 1).toNat = 0 \/ sx x / 2 ^ (bits - 7 * k - 1).toNat = -1) :
    (IntKind.i64.wrap (bitsOp .or .i64 v (IntKind.i64.wrap (x % 128 * 2 ^ (7 * k))) * 2 ^ min (if 0 < 57 - 7 * (k : Int) then 57 - 7 * (k : Int) else 0).toNat IntKind.i64.bits)).fdiv (2 ^ min (if 0 < 57 - 7 * (k : Int) then 57 - 7 * (k : Int) else 0).toNat IntKind.i64.bits) = sext (7 * k + 7) (v + x % 128 * 2 ^ (7 * k)) := by
  by_cases h9 : k <= 8
  · exact sgn_step h9 hv0 hv (by omega) (by omega)
  · obtain ⟨rfl, hl⟩ := sx_low hb hk h9 h
    exact sgn_last hv0 hv hl
attribute [local irreducible] AW AWL AC FW CW CWr IntKind.wrap
def S13 (xs : List Int) (bits at_ done n : Int) : St :=
  { n := 83, slots := [(0, .view xs.length 1 (nums .u8 xs)), (1, .int .i64 at_), (2, .int .i64 bits), (9, .int .i64 n), (10, .int .i64 done)], mem := [] }
theorem MS.NM : type_of% @NSX /\ type_of% @St.keepS.eq_1 /\ type_of% @TY /\ type_of% @SLS /\ type_of% @nums_length /\ type_of% @S13.eq_1 :=
  ⟨NSX, St.keepS.eq_1, @TY, @SLS, @nums_length, @S13.eq_1⟩
open MS
theorem K1S.kp {P : Program} {c : Code} {Q : Exit -> St -> Prop} {st : St} (h : AW P c Q (st.keepS [0, 1, 2, 6, 7, 8, 9, 10, 11, 12, 13])) : AW P c Q st := AW.keepS _ h
theorem K1S.sd {p : Prop} (h : p := by first | exact sd7e6d25) : p := h
open K1S in
set_option maxRecDepth 4000 in
set_option maxHeartbeats 1000000 in
theorem s_ok (xs : List Int) (hb : bytes xs) (hlen : xs.length <= 1000000000000000) (at_ bits : Int) :
    AC Try.prog 64 [.view xs.length 1 (nums .u8 xs), .int .i64 at_, .int .i64 bits] (fun r m => r = .tup [.int .i64 (sSpec xs at_ bits).1, .int .i64 (sSpec xs at_ bits).2.1, .int .i64 (sSpec xs at_ bits).2.2] /\ m = []) := by
  refine AC.enter Try.func64 rfl (Nat.le_of_ble_eq_true rfl) ?_
  simp only [Try.f64]
  have nx : True := trivial
  refine' st518d76
  · refine ⟨?_, trivial⟩; rw [sSpec, if_pos (by omega)]
  · obtain ⟨a0, rfl⟩ : ∃ a0 : Nat, at_ = a0 := ⟨at_.toNat, by omega⟩
    have hsp : sSpec xs a0 bits = sRd bits (xs.drop a0) 0 0 a0 := by rw [sSpec, if_neg (by omega), Int.toNat_natCast]
    refine AW.loop [0, 1, 2, 9, 10] [] (fun n st => ∃ (k a : Nat) (v : Int), st = S13 xs bits a (7 * k) v /\ a <= xs.length /\ n = xs.length - a /\ 7 * (k : Int) < bits /\ 0 <= v /\ v < 2 ^ (7 * k) /\ sSpec xs a0 bits = sRd bits (xs.drop a) (7 * k) v a) ?_ ?_
    · exact ⟨_, 0, a0, 0, rfl, by omega, rfl, by omega, by decide, by decide, hsp⟩
    · rintro n st ⟨k, a, v, rfl, ha, rfl, hkb, hv0, hv1, hs⟩
      by_cases hal : a < xs.length
      · have hx := hb _ (getD_mem hal)
        have hA := and_127 hx.1 hx.2
        have hB : IntKind.i64.wrap (xs.getD a 0 % 128) = xs.getD a 0 % 128 := wrap64_id _ (by omega) (by omega)
        rw [drop_getD hal] at hs
        simp only [sRd] at hs
        have hM : min (7 * (k : Int)).toNat IntKind.i64.bits = 7 * k := by
          rw [Nat.min_eq_left (by show _ <= 64; omega)]; omega
        have e7 : (2 : Int) ^ (7 * k + 7) = 2 ^ (7 * (k + 1)) := by rw [Nat.mul_succ]
        have hX := sx_of hx
        have hX2 := hX
        simp only [Int.reduceToNat] at hX2
        have nx : type_of% @hA /\ type_of% @hB /\ type_of% @hM /\ type_of% @hX /\ type_of% @hX2 /\ type_of% @shr8 /\ type_of% @wrap64_id /\ True := ⟨@hA, ⟨@hB, ⟨@hM, ⟨@hX, ⟨@hX2, ⟨@shr8, ⟨@wrap64_id, trivial⟩⟩⟩⟩⟩⟩⟩
        refine' st518d76
        all_goals try simp (disch := omega) only [NM, Nat.reduceBEq, reduceAdd, reduceMul, Int.reduceToNat, reduceSub, List.set_cons_zero, List.set_cons_succ, hA, hB, hM, hX, hX2, shr8, wrap64_id]
        all_goals first
          | ((rw [hs, if_pos ⟨by assumption, .inr (by omega)⟩]; exact ⟨rfl, trivial⟩))
          | ((have hg := sgn_all (x := xs.getD a 0) (by omega) hkb hv0 hv1 (fun _ => .inr (by assumption))); (rw [if_neg (by rintro ⟨_, ⟨_, h⟩ | h⟩ <;> first | exact h (by assumption) | omega), if_pos (by assumption)] at hs; rw [hs, hg]; exact ⟨rfl, trivial⟩))
          | ((rw [hs, if_pos ⟨by assumption, .inl ⟨by assumption, by assumption⟩⟩]; exact ⟨rfl, trivial⟩))
          | ((rw [hs, if_pos ⟨by assumption, .inr (by omega)⟩]; exact ⟨rfl, trivial⟩))
          | ((have hg := sgn_all (x := xs.getD a 0) (by omega) hkb hv0 hv1 (fun _ => .inl (by assumption))); (rw [if_neg (by rintro ⟨_, ⟨h, _⟩ | h⟩ <;> first | exact h (by assumption) | omega), if_pos (by assumption)] at hs; rw [hs, hg]; exact ⟨rfl, trivial⟩))
          | ((have hg := sgn_all (x := xs.getD a 0) (by omega) hkb hv0 hv1 (fun _ => by omega)); (rw [if_neg (by rintro ⟨_, _⟩; omega), if_pos (by assumption)] at hs; rw [hs, hg]; exact ⟨rfl, trivial⟩))
          | ((have ho := or64 (k := k) (low := xs.getD a 0 % 128) (by omega) hv0 hv1 (by omega) (by omega)); (rw [if_neg (by rintro ⟨_, _⟩; omega), if_neg (by omega)] at hs); (refine ⟨xs.length - (a + 1), by omega, k + 1, a + 1, v + xs.getD a 0 % 128 * 2 ^ (7 * k), ?_, by omega, rfl, by omega, ho.2.1, by rw [<- e7]; exact ho.2.2, hs⟩); (rw [ho.1, show (7 * ((k + 1 : Nat) : Int)) = 7 * k + 7 from by omega]; rfl))
          | trace_state
      · have nx : True := trivial
        refine' st518d76
        all_goals try simp (disch := omega) only [NM, Nat.reduceBEq, reduceAdd, reduceMul, Int.reduceToNat, reduceSub, List.set_cons_zero, List.set_cons_succ]
        · rw [List.drop_of_length_le (by omega)] at hs
          rw [hs]; exact ⟨rfl, trivial⟩
        all_goals (exfalso; omega)
  all_goals (refine ⟨?_, trivial⟩; rw [sSpec, if_pos (by omega)])
end Go.Proofs.Yteppkbaeacndiaa
namespace Go.Proofs.Yteppkbaeacndiaa
set_option maxRecDepth 20000
open Go Go.Abs Nat
attribute [local irreducible] AW AWL AC FW CW CWr IntKind.wrap
def S15 (xs : List Int) (n : Int) (n3 : Nat) (c3 : List V) (i : Int) : St :=
  { n := 29, slots := [(0, .view xs.length 1 (nums .u64 xs)), (2, .ref 2 0 0 1), (3, .ref 3 0 n3 1), (5, .int .u64 n), (6, .view xs.length 1 (nums .u64 xs)), (7, .int .i64 xs.length), (8, .int .i64 i)], mem := [(3, ⟨true, c3⟩)] }
def T15 (xs : List Int) (n3 : Nat) (c3 : List V) (i : Int) : St :=
  { n := 29, slots := [(0, .view xs.length 1 (nums .u64 xs)), (2, .ref 2 0 0 1), (3, .ref 3 0 n3 1), (6, .view xs.length 1 (nums .u64 xs)), (7, .int .i64 xs.length), (8, .int .i64 i)], mem := [(3, ⟨true, c3⟩)] }
theorem MPU.NM : type_of% @NSX /\ type_of% @St.keepS.eq_1 /\ type_of% @TY /\ type_of% @SLS /\ type_of% @nums_length /\ type_of% @S15.eq_1 /\ type_of% @T15.eq_1 :=
  ⟨NSX, St.keepS.eq_1, @TY, @SLS, @nums_length, @S15.eq_1, @T15.eq_1⟩
open MPU
theorem K1PU.kp {P : Program} {c : Code} {Q : Exit -> St -> Prop} {st : St} (h : AW P c Q (st.keepS [0, 2, 3, 5, 6, 7, 8])) : AW P c Q st := AW.keepS _ h
theorem K1PU.sd {p : Prop} (h : p := by first | exact sde87dfd) : p := h
open K1PU in
set_option maxHeartbeats 800000 in
theorem pu_ok (xs : List Int) (hb : ∀ x ∈ xs, 0 <= x /\ x < 2 ^ 64) (hlen : xs.length <= 1000000000000) : AC Try.prog 42 [.view xs.length 1 (nums .u64 xs)] (fun r m => r = .ref 2 0 (putUs xs).length 1 /\ m = [(2, nums .u8 (putUs xs))]) := by
  refine AC.enter Try.func42 rfl (Nat.le_of_ble_eq_true rfl) ?_
  simp only [Try.f42]
  have nx : True := trivial
  refine' st6320d6
  refine AW.loop [0, 2, 3, 6, 7, 8] [3] (fun n st => ∃ (k n3 : Nat) (c3 : List V) (i : Int), st = T15 xs n3 c3 i /\ k <= xs.length /\ n = xs.length - k /\ i = k /\ n3 = (putUs (xs.take k)).length /\ c3 = nums .u8 (putUs (xs.take k))) ?_ ?_
  · exact ⟨_, 0, _, _, _, rfl, Nat.zero_le _, rfl, rfl, rfl, rfl⟩
  · rintro n st ⟨k, n3, c3, i, rfl, hk, rfl, rfl, rfl, rfl⟩
    by_cases hkl : k < xs.length
    · have hlk := putUs_len (xs.take k) (fun x hx => hb x (List.mem_of_mem_take hx))
      rw [List.length_take] at hlk
      have hx := hb _ (getD_mem hkl)
      have hpl := putU_len 9 (xs.getD k 0).toNat (by have := hx.1; have := hx.2; simp only [Nat.reduceAdd, Nat.reduceMul, Nat.reducePow]; omega)
      have nx : True := trivial
      refine' st6320d6
      refine AW.loop [0, 2, 3, 5, 6, 7, 8] [3] (fun n st => ∃ (m n3 : Nat) (o : List Int), st = S15 xs m n3 (nums .u8 o) k /\ n = m /\ m < 2 ^ 64 /\ n3 = o.length /\ putUs (xs.take k) ++ putU (xs.getD k 0).toNat = o ++ putU m) ?_ ?_
      · exact ⟨_, (xs.getD k 0).toNat, _, putUs (xs.take k), by rw [Int.toNat_of_nonneg hx.1]; rfl, rfl, by omega, rfl, rfl⟩
      · rintro n st ⟨m, n3, o, rfl, rfl, hm, rfl, he⟩
        have hel := congrArg List.length he
        rw [List.length_append, List.length_append] at hel
        have hsh : (n : Int).fdiv (2 ^ min (Int.toNat 7) IntKind.u64.bits) = ((n / 128 : Nat) : Int) := shr7 (k := .u64) (n : Int) (by decide)
        have hsh2 := hsh
        simp only [Int.reduceToNat] at hsh2
        have hlb := lowByte (n : Int)
        have nx : type_of% @hsh /\ type_of% @hsh2 /\ type_of% @hlb /\ True := ⟨@hsh, ⟨@hsh2, ⟨@hlb, trivial⟩⟩⟩
        refine' st6320d6
        all_goals try simp (disch := omega) only [NM, Nat.reduceBEq, reduceAdd, reduceMul, Int.reduceToNat, reduceSub, List.set_cons_zero, List.set_cons_succ, hsh, hsh2, hlb]
        · have hn : ¬n < 128 := by omega
          refine ⟨n / 128, by omega, n / 128, _, o ++ [(n : Int) % 128 + 128], ?_, rfl, by omega, by rw [List.length_append], ?_⟩
          · rfl
          · rw [he, putU_big hn, List.append_assoc]; rfl
        · have hn : n < 128 := by omega
          have e1 : IntKind.u8.wrap (n : Int) = n := wrap_in rfl (by omega) (by show _ < (256 : Int); omega)
          have e2 : putUs (xs.take (k + 1)) = o ++ [(n : Int)] := by
            rw [take_snoc _ _ hkl, putUs_append]
            simp only [putUs, List.append_nil]
            rw [he, putU_small hn]
          refine ⟨xs.length - (k + 1), by omega, k + 1, _, _, _, ?_, by omega, rfl, rfl, rfl, rfl⟩
          rw [e2, wrap64_id _ (by omega) (by omega), e1, List.length_append]; rfl
    · have nx : True := trivial
      refine' st6320d6
      all_goals try simp (disch := omega) only [NM, Nat.reduceBEq, reduceAdd, reduceMul, Int.reduceToNat, reduceSub, List.set_cons_zero, List.set_cons_succ]
      · rw [List.take_of_length_le (by omega)]; exact ⟨rfl, rfl⟩
      all_goals (exfalso; omega)
end Go.Proofs.Yteppkbaeacndiaa
namespace Go.Proofs.Yteppkbaeacndiaa
set_option maxRecDepth 20000
open Go Go.Abs Nat
attribute [local irreducible] AW AWL AC FW CW CWr IntKind.wrap
def S17 (xs : List Int) (n : Int) (n3 : Nat) (c3 : List V) (i : Int) : St :=
  { n := 34, slots := [(0, .view xs.length 1 (nums .i64 xs)), (2, .ref 2 0 0 1), (3, .ref 3 0 n3 1), (5, .int .i64 n), (6, .view xs.length 1 (nums .i64 xs)), (7, .int .i64 xs.length), (8, .int .i64 i)], mem := [(3, ⟨true, c3⟩)] }
def T17 (xs : List Int) (n3 : Nat) (c3 : List V) (i : Int) : St :=
  { n := 34, slots := [(0, .view xs.length 1 (nums .i64 xs)), (2, .ref 2 0 0 1), (3, .ref 3 0 n3 1), (6, .view xs.length 1 (nums .i64 xs)), (7, .int .i64 xs.length), (8, .int .i64 i)], mem := [(3, ⟨true, c3⟩)] }
theorem MPS.NM : type_of% @NSX /\ type_of% @St.keepS.eq_1 /\ type_of% @TY /\ type_of% @SLS /\ type_of% @nums_length /\ type_of% @S17.eq_1 /\ type_of% @T17.eq_1 :=
  ⟨NSX, St.keepS.eq_1, @TY, @SLS, @nums_length, @S17.eq_1, @T17.eq_1⟩
open MPS
theorem K1PS.kp {P : Program} {c : Code} {Q : Exit -> St -> Prop} {st : St} (h : AW P c Q (st.keepS [0, 2, 3, 5, 6, 7, 8])) : AW P c Q st := AW.keepS _ h
theorem K1PS.sd {p : Prop} (h : p := by first | exact sd9dd962) : p := h
open K1PS in
set_option maxHeartbeats 800000 in
theorem ps_ok (xs : List Int) (hb : ∀ x ∈ xs, -2 ^ 63 <= x /\ x < 2 ^ 63) (hlen : xs.length <= 1000000000000) : AC Try.prog 43 [.view xs.length 1 (nums .i64 xs)] (fun r m => r = .ref 2 0 (putSs xs).length 1 /\ m = [(2, nums .u8 (putSs xs))]) := by
  refine AC.enter Try.func43 rfl (Nat.le_of_ble_eq_true rfl) ?_
  simp only [Try.f43]
  have nx : True := trivial
  refine' st518d76
  refine AW.loop [0, 2, 3, 6, 7, 8] [3] (fun n st => ∃ (k n3 : Nat) (c3 : List V) (i : Int), st = T17 xs n3 c3 i /\ k <= xs.length /\ n = xs.length - k /\ i = k /\ n3 = (putSs (xs.take k)).length /\ c3 = nums .u8 (putSs (xs.take k))) ?_ ?_
  · exact ⟨_, 0, _, _, _, rfl, Nat.zero_le _, rfl, rfl, rfl, rfl⟩
  · rintro n st ⟨k, n3, c3, i, rfl, hk, rfl, rfl, rfl, rfl⟩
    by_cases hkl : k < xs.length
    · have hlk := putSs_len (xs.take k) (fun x hx => hb x (List.mem_of_mem_take hx))
      rw [List.length_take] at hlk
      have hx := hb _ (getD_mem hkl)
      have hpl := putS_len 9 (xs.getD k 0) (by have := hx.1; have := hx.2; simp only [Nat.reduceMul, Int.reducePow, Int.reduceMul]; omega)
      have nx : True := trivial
      refine' st518d76
      refine AW.loop [0, 2, 3, 5, 6, 7, 8] [3] (fun n st => ∃ (m : Int) (n3 : Nat) (o : List Int), st = S17 xs m n3 (nums .u8 o) k /\ n = m.natAbs /\ (-2 ^ 63 <= m /\ m < 2 ^ 63) /\ n3 = o.length /\ putSs (xs.take k) ++ putS (xs.getD k 0) = o ++ putS m) ?_ ?_
      · exact ⟨_, xs.getD k 0, _, putSs (xs.take k), rfl, rfl, hx, rfl, rfl⟩
      · rintro _ st ⟨n, n3, o, rfl, rfl, hm, rfl, he⟩
        have hel := congrArg List.length he
        rw [List.length_append, List.length_append] at hel
        have hsh := shr7 (k := .i64) n (by decide)
        have hsh2 := hsh
        simp only [Int.reduceToNat] at hsh2
        have hlb := lowByte n
        have han := and_i127 n
        have e1 : IntKind.u8.wrap (n % 128) = n % 128 := wrap_in rfl (by omega) (by show _ < (256 : Int); omega)
        have nx : type_of% @hsh /\ type_of% @hsh2 /\ type_of% @hlb /\ type_of% @han /\ type_of% @e1 /\ True := ⟨@hsh, ⟨@hsh2, ⟨@hlb, ⟨@han, ⟨@e1, trivial⟩⟩⟩⟩⟩
        refine' st518d76
        all_goals try simp (disch := omega) only [NM, Nat.reduceBEq, reduceAdd, reduceMul, Int.reduceToNat, reduceSub, List.set_cons_zero, List.set_cons_succ, hsh, hsh2, hlb, han, e1]
        all_goals first
          | (have hn : ¬(-64 <= n /\ n <= 63) := by omega
             refine ⟨(n / 128).natAbs, by omega, n / 128, _, o ++ [n % 128 + 128], ?_, rfl, by omega, by rw [List.length_append], ?_⟩
             · rfl
             · rw [he, putS_big hn, List.append_assoc]; rfl)
          | (have hn : -64 <= n /\ n <= 63 := by omega
             have e2 : putSs (xs.take (k + 1)) = o ++ [n % 128] := by
               rw [take_snoc _ _ hkl, putSs_append]
               simp only [putSs, List.append_nil]
               rw [he, putS_small hn]
             refine ⟨xs.length - (k + 1), by omega, k + 1, _, _, _, ?_, by omega, rfl, rfl, rfl, rfl⟩
             rw [e2, wrap64_id _ (by omega) (by omega), List.length_append]; rfl)
    · have nx : True := trivial
      refine' st518d76
      all_goals try simp (disch := omega) only [NM, Nat.reduceBEq, reduceAdd, reduceMul, Int.reduceToNat, reduceSub, List.set_cons_zero, List.set_cons_succ]
      · rw [List.take_of_length_le (by omega)]; exact ⟨rfl, rfl⟩
      all_goals (exfalso; omega)
end Go.Proofs.Yteppkbaeacndiaa
namespace Go.Proofs.Yteppkbaeacndiaa
set_option maxRecDepth 20000
open Go Go.Abs Nat
attribute [local irreducible] AW AWL AC FW CW CWr IntKind.wrap
def S19 (n k : Int) : St := { n := 11, slots := [(0, .int .u64 n), (3, .int .i64 k)], mem := [] }
def bitn (x i : Int) : Int := x / 2 ^ i.toNat % 2
theorem bitn_2 (x i : Int) : bitn x i = 0 \/ bitn x i = 1 := by unfold bitn; omega
theorem MBit.NM : type_of% @NSX /\ type_of% @St.keepS.eq_1 /\ type_of% @TY /\ type_of% @SLS /\ type_of% @nums_length /\ type_of% @S19.eq_1 :=
  ⟨NSX, St.keepS.eq_1, @TY, @SLS, @nums_length, @S19.eq_1⟩
open MBit
theorem K1Bit.kp {P : Program} {c : Code} {Q : Exit -> St -> Prop} {st : St} (h : AW P c Q (st.keepS [0, 1, 4])) : AW P c Q st := AW.keepS _ h
theorem K1Bit.sd {p : Prop} (h : p := by first | exact sd7e6d25) : p := h
open K1Bit in
theorem bit_ok (x : Int) (hx : byte x) (i : Int) (hi : 0 <= i /\ i < 8) : AC Try.prog 66 [.int .u8 x, .int .i64 i] (fun r m => r = .int .i64 (bitn x i) /\ m = []) := by
  have h1 := hx.1
  have h2 := hx.2
  have e1 : IntKind.u64.wrap i = i := wrap_in rfl hi.1 (by show _ < (18446744073709551616 : Int); omega)
  have e2 : x.fdiv (2 ^ min i.toNat IntKind.u8.bits) = x / 2 ^ i.toNat := by
    rw [Nat.min_eq_left (by show _ <= 8; omega), fdiv_pow _ _ h1]
  have hp : (0 : Int) < 2 ^ i.toNat := Int.pow_pos (by decide)
  have h3 : 0 <= x / 2 ^ i.toNat := Int.ediv_nonneg h1 (Int.le_of_lt hp)
  have h4 : x / 2 ^ i.toNat <= x := Int.ediv_le_self _ h1
  have e3 : IntKind.i64.wrap (x / 2 ^ i.toNat) = x / 2 ^ i.toNat := wrap64_id _ (by omega) (by omega)
  have e4 : (x / 2 ^ i.toNat).tmod 2 = bitn x i := Int.tmod_eq_emod_of_nonneg h3
  refine AC.enter Try.func66 rfl (Nat.le_of_ble_eq_true rfl) ?_
  simp only [Try.f66]
  have nx : type_of% @e1 /\ type_of% @e2 /\ type_of% @e3 /\ type_of% @e4 /\ True := ⟨@e1, ⟨@e2, ⟨@e3, ⟨@e4, trivial⟩⟩⟩⟩
  refine' st6320d6
  all_goals exact ⟨trivial, trivial⟩
end Go.Proofs.Yteppkbaeacndiaa
namespace Go.Proofs.Yteppkbaeacndiaa
set_option maxRecDepth 20000
open Go Go.Abs
def bits7 (x : Int) : List Int := [bitn x 0, bitn x 1, bitn x 2, bitn x 3, bitn x 4, bitn x 5, bitn x 6]
theorem bits7_at (x : Int) (i : Nat) (h : i < 7) : (bits7 x).getD i 0 = bitn x i := by
  have : i = 0 \/ i = 1 \/ i = 2 \/ i = 3 \/ i = 4 \/ i = 5 \/ i = 6 := by omega
  rcases this with rfl | rfl | rfl | rfl | rfl | rfl | rfl <;> rfl
theorem bits7_take (x : Int) (i : Nat) (h : i < 7) : (bits7 x).take (i + 1) = (bits7 x).take i ++ [bitn x i] := by
  have : i = 0 \/ i = 1 \/ i = 2 \/ i = 3 \/ i = 4 \/ i = 5 \/ i = 6 := by omega
  rcases this with rfl | rfl | rfl | rfl | rfl | rfl | rfl <;> rfl
theorem bits7_len (x : Int) : (bits7 x).length = 7 := rfl
theorem bit_7 {x : Int} (h : byte x) : bitn x 7 = if x >= 128 then 1 else 0 := by
  obtain ⟨h0, h1⟩ := h
  show x / 2 ^ 7 % 2 = _
  simp only [Int.reducePow]
  split <;> omega
theorem getD_take (l m : List Int) (i j : Nat) (h : j < l.length + i) : (l ++ m.take i).getD j 0 = (l ++ m).getD j 0 := by
  simp only [List.getD_eq_getElem?_getD, List.getElem?_append]
  split
  · rfl
  · rw [List.getElem?_take, if_pos (by omega)]
theorem own_getD {k : IntKind} {xs : List Int} {n : Nat} (h : n < xs.length) : (nums k xs).getD n .any = .int k (xs.getD n 0) := by
  simp [nums, List.getD_eq_getElem?_getD, h]
def badAt (sg : Bool) (bits : Int) (k : Nat) (x : Int) (l : List Int) (i : Nat) : Prop :=
  7 * (k : Int) + i >= bits /\ ((sg = true -> bitn x i ≠ (l ++ bits7 x).getD (bits - 1).toNat 0) /\ (sg = false -> bitn x i = 1))
noncomputable def rRd (sg : Bool) (bits : Int) : List Int -> Nat -> List Int -> Int -> List Int × Int × Int
  | [], _, _, _ => ([], 0, 5)
  | x :: t, k, l, at_ =>
    open Classical in
    if (∃ i, i < 7 /\ badAt sg bits k x l i) \/ (7 * ((k : Int) + 1) >= bits /\ x >= 128) then ([], 0, 6)
    else if x < 128 then (l ++ bits7 x, at_ + 1, 0) else rRd sg bits t (k + 1) (l ++ bits7 x) (at_ + 1)
noncomputable def rSpec (sg : Bool) (xs : List Int) (at_ bits : Int) : List Int × Int × Int :=
  if bits < 1 \/ bits > 64 \/ at_ < 0 \/ at_ > xs.length then ([], 0, 1) else rRd sg bits (xs.drop at_.toNat) 0 [] at_
end Go.Proofs.Yteppkbaeacndiaa
namespace Go.Proofs.Yteppkbaeacndiaa
set_option maxRecDepth 20000
open Go Go.Abs
attribute [local irreducible] AW AWL AC FW CW CWr IntKind.wrap
def T20 (xs : List Int) (at_ bits : Int) (sg : Bool) (n : Nat) (c : List V) (k : Int) : St :=
  { n := 103, slots := [(0, .view xs.length 1 (nums .u8 xs)), (1, .int .i64 at_), (2, .int .i64 bits), (3, .bool sg), (8, .ref 8 0 0 1), (11, .ref 11 0 n 1), (12, .int .i64 k)], mem := [(11, ⟨true, c⟩)] }
def S20 (xs : List Int) (at_ bits : Int) (sg : Bool) (n : Nat) (c : List V) (k x i : Int) : St :=
  { n := 103, slots := [(0, .view xs.length 1 (nums .u8 xs)), (1, .int .i64 at_), (2, .int .i64 bits), (3, .bool sg), (8, .ref 8 0 0 1), (11, .ref 11 0 n 1), (12, .int .i64 k), (13, .int .u8 x), (14, .int .i64 i)], mem := [(11, ⟨true, c⟩)] }
theorem K1Read.kp {P : Program} {c : Code} {Q : Exit -> St -> Prop} {st : St} (h : AW P c Q (st.keepS [0, 1, 2, 3, 8, 9, 10, 11, 12, 13, 14])) : AW P c Q st := AW.keepS _ h
theorem K1Read.sd {p : Prop} (h : p := by first | exact sd41ac67) : p := h
open K1Read in
set_option maxRecDepth 4000 in
set_option maxHeartbeats 1500000 in
theorem read_ok (xs : List Int) (hb : bytes xs) (hlen : xs.length <= 1000000000000000) (at_ bits : Int) (sg : Bool) :
    AC Try.prog 58 [.view xs.length 1 (nums .u8 xs), .int .i64 at_, .int .i64 bits, .bool sg] (fun r m => r = .tup [.ref 8 0 (rSpec sg xs at_ bits).1.length 1, .int .i64 (rSpec sg xs at_ bits).2.1, .int .i64 (rSpec sg xs at_ bits).2.2] /\ m = [(8, nums .i64 (rSpec sg xs at_ bits).1)]) := by
  refine AC.enter Try.func58 rfl (Nat.le_of_ble_eq_true rfl) ?_
  simp only [Try.f58]
  have nx : True := trivial
  refine' stdec476
  · rw [rSpec, if_pos (by omega)]; exact ⟨rfl, rfl⟩
  · obtain ⟨a0, rfl⟩ : ∃ a0 : Nat, at_ = a0 := ⟨at_.toNat, by omega⟩
    have hsp : rSpec sg xs a0 bits = rRd sg bits (xs.drop (a0 + 0)) 0 [] (((a0 + 0 : Nat)) : Int) := by rw [rSpec, if_neg (by omega), Int.toNat_natCast]; rfl
    refine AW.loop [0, 1, 2, 3, 8, 11, 12] [11] (fun w st => ∃ (k : Nat) (l : List Int), st = T20 xs a0 bits sg l.length (nums .i64 l) k /\ a0 + k <= xs.length /\ w = xs.length - (a0 + k) /\ 7 * (k : Int) < bits /\ l.length = 7 * k /\ rSpec sg xs a0 bits = rRd sg bits (xs.drop (a0 + k)) k l (((a0 + k : Nat)) : Int)) ?_ ?_
    · exact ⟨_, 0, [], rfl, by omega, rfl, by omega, rfl, hsp⟩
    · rintro w st ⟨k, l, rfl, ha, rfl, hkb, hl, hs⟩
      by_cases hal : a0 + k < xs.length
      · have hx := hb _ (getD_mem hal)
        rw [drop_getD hal] at hs
        simp only [rRd] at hs
        have hW : IntKind.i64.wrap ((a0 : Int) + (k : Int)) = ((a0 + k : Nat) : Int) := wrap64_id _ (by omega) (by omega)
        have hM : IntKind.i64.wrap (7 * (k : Int)) = ((7 * k : Nat) : Int) := wrap64_id _ (by omega) (by omega)
        have hW3 : IntKind.i64.wrap (((a0 + k : Nat) : Int) + 1) = ((a0 + k : Nat) : Int) + 1 := wrap64_id _ (by omega) (by omega)
        have hM3 : IntKind.i64.wrap (7 * IntKind.i64.wrap ((k : Int) + 1)) = 7 * ((k : Int) + 1) := by rw [wrap64_id ((k : Int) + 1) (by omega) (by omega)]; exact wrap64_id _ (by omega) (by omega)
        have hB : IntKind.i64.wrap (bits - 1) = (((bits - 1).toNat : Nat) : Int) := by rw [wrap64_id _ (by omega) (by omega)]; omega
        have nx : type_of% @hW /\ True := ⟨@hW, trivial⟩
        refine' stdec476
        refine AW.loop [0, 1, 2, 3, 8, 11, 12, 13, 14] [11] (fun w st => ∃ (i n : Nat) (c : List V), st = S20 xs a0 bits sg n c k (xs.getD (a0 + k) 0) i /\ i <= 7 /\ w = 7 - i /\ n = 7 * k + i /\ c = nums .i64 (l ++ (bits7 (xs.getD (a0 + k) 0)).take i) /\ (∀ j, j < i -> ¬badAt sg bits k (xs.getD (a0 + k) 0) l j)) ?_ ?_
        · exact ⟨_, 0, l.length, _, rfl, by omega, rfl, by omega, by rw [List.take_zero, List.append_nil], fun j hj => absurd hj (Nat.not_lt_zero _)⟩
        · rintro w st ⟨i, n, c, rfl, hi, rfl, rfl, rfl, hbad⟩
          have hW2 : IntKind.i64.wrap (((7 * k : Nat) : Int) + (i : Int)) = ((7 * k + i : Nat) : Int) := wrap64_id _ (by omega) (by omega)
          have h7 := bit_7 hx
          have hb7 := bitn_2 (xs.getD (a0 + k) 0) i
          have hT : i < 7 -> l ++ (bits7 (xs.getD (a0 + k) 0)).take (i + 1) = (l ++ (bits7 (xs.getD (a0 + k) 0)).take i) ++ [bitn (xs.getD (a0 + k) 0) i] := fun h => by rw [bits7_take _ _ h, List.append_assoc]
          have hG : bits <= ((7 * k + i : Nat) : Int) -> (l ++ (bits7 (xs.getD (a0 + k) 0)).take i).getD (bits - 1).toNat 0 = (l ++ bits7 (xs.getD (a0 + k) 0)).getD (bits - 1).toNat 0 := fun h => getD_take _ _ _ _ (by omega)
          have hnb : i = 7 -> ¬ ∃ i, i < 7 /\ badAt sg bits k (xs.getD (a0 + k) 0) l i := fun h ⟨j, hj, hbj⟩ => hbad j (by omega) hbj
          have hL : i = 7 -> l ++ (bits7 (xs.getD (a0 + k) 0)).take i = l ++ bits7 (xs.getD (a0 + k) 0) /\ 7 * k + i = (l ++ bits7 (xs.getD (a0 + k) 0)).length := fun h => by subst h; exact ⟨rfl, by rw [List.length_append, hl]; rfl⟩
          have hLn : i <= 7 -> (l ++ (bits7 (xs.getD (a0 + k) 0)).take i).length = 7 * k + i := fun h => by rw [List.length_append, List.length_take, bits7_len]; omega
          have hLn := hLn hi
          have hOw : bits <= ((7 * k + i : Nat) : Int) -> (nums .i64 (l ++ (bits7 (xs.getD (a0 + k) 0)).take i)).getD (bits - 1).toNat .any = .int .i64 ((l ++ (bits7 (xs.getD (a0 + k) 0)).take i).getD (bits - 1).toNat 0) := fun h => own_getD (by omega)
          have hTk : (l ++ (bits7 (xs.getD (a0 + k) 0)).take i).take (7 * k + i) = l ++ (bits7 (xs.getD (a0 + k) 0)).take i := List.take_of_length_le (by omega)
          have hA2 : (((a0 + (k + 1) : Nat)) : Int) = ((a0 + k : Nat) : Int) + 1 := by omega
          generalize hxe : xs.getD (a0 + k) 0 = x at *
          cases sg
          · have nx : type_of% @hW /\ type_of% @hM /\ type_of% @hW2 /\ type_of% @hB /\ type_of% @hW3 /\ type_of% @hM3 /\ type_of% @hTk /\ True := ⟨@hW, ⟨@hM, ⟨@hW2, ⟨@hB, ⟨@hW3, ⟨@hM3, ⟨@hTk, trivial⟩⟩⟩⟩⟩⟩⟩
            refine' stdec476
            all_goals try simp (disch := omega) only [NSX, St.keepS, Nat.reduceBEq, Nat.reduceAdd, Nat.reduceMul, Int.reduceToNat, Nat.reduceSub, TY, SLS, List.set_cons_zero, List.set_cons_succ, nums_length, S20, T20, hW, hM, hW2, hB, hW3, hM3, hTk]
            · refine ⟨7 - (i + 1), by omega, i + 1, _, nums .i64 ((l ++ (bits7 x).take i) ++ [bitn x i]), ?_, by omega, rfl, rfl, by rw [hT (by omega)], ?_⟩
              · rw [wrap64_id _ (by omega) (by omega)]; rfl
              · intro j hj hbj
                by_cases hji : j = i
                · subst hji; exact absurd (hbj.2.2 rfl) (by assumption)
                · exact hbad j (by omega) hbj
            · rw [hs, if_pos (.inl ⟨i, by omega, by omega, fun h => (Bool.noConfusion h), fun _ => by assumption⟩)]; exact ⟨rfl, rfl⟩
            · refine ⟨7 - (i + 1), by omega, i + 1, _, nums .i64 ((l ++ (bits7 x).take i) ++ [bitn x i]), ?_, by omega, rfl, rfl, by rw [hT (by omega)], ?_⟩
              · rw [wrap64_id _ (by omega) (by omega)]; rfl
              · intro j hj hbj
                by_cases hji : j = i
                · subst hji; have := hbj.1; omega
                · exact hbad j (by omega) hbj
            · have hx128 : x >= 128 := by
                apply Classical.byContradiction; intro hx; rw [if_neg hx] at h7; omega
              rw [hs, if_pos (.inr ⟨by omega, hx128⟩)]; exact ⟨rfl, rfl⟩
            · have hx128 : x < 128 := by
                apply Classical.byContradiction; intro hx; rw [if_pos (by omega)] at h7; omega
              have hi7 : i = 7 := by omega
              rw [if_neg (by rintro (h | ⟨_, h⟩); exact hnb hi7 h; omega), if_pos hx128] at hs
              rw [hs, (hL hi7).1, (hL hi7).2]; exact ⟨rfl, rfl⟩
            · have hx128 : x < 128 := by
                apply Classical.byContradiction; intro hx; rw [if_pos (by omega)] at h7; omega
              have hi7 : i = 7 := by omega
              rw [if_neg (by rintro (h | ⟨_, h⟩); exact hnb hi7 h; omega), if_pos hx128] at hs
              rw [hs, (hL hi7).1, (hL hi7).2]; exact ⟨rfl, rfl⟩
            · have hx128 : x >= 128 := by
                apply Classical.byContradiction; intro hx; rw [if_neg hx] at h7; omega
              have hi7 : i = 7 := by omega
              rw [if_neg (by rintro (h | ⟨h, _⟩); exact hnb hi7 h; omega), if_neg (by omega)] at hs
              refine ⟨xs.length - (a0 + (k + 1)), by omega, k + 1, l ++ bits7 x, ?_, by omega, rfl, by omega, by rw [<- (hL hi7).2, hi7]; omega, by rw [hA2]; exact hs⟩
              rw [(hL hi7).1, (hL hi7).2, wrap64_id _ (by omega) (by omega)]; rfl
          · have nx : type_of% @hW /\ type_of% @hM /\ type_of% @hW2 /\ type_of% @hB /\ type_of% @hW3 /\ type_of% @hM3 /\ type_of% @hTk /\ type_of% @hG /\ type_of% @hOw /\ True := ⟨@hW, ⟨@hM, ⟨@hW2, ⟨@hB, ⟨@hW3, ⟨@hM3, ⟨@hTk, ⟨@hG, ⟨@hOw, trivial⟩⟩⟩⟩⟩⟩⟩⟩⟩
            refine' stdec476
            all_goals try simp (disch := omega) only [NSX, St.keepS, Nat.reduceBEq, Nat.reduceAdd, Nat.reduceMul, Int.reduceToNat, Nat.reduceSub, TY, SLS, List.set_cons_zero, List.set_cons_succ, nums_length, S20, T20, hW, hM, hW2, hB, hW3, hM3, hTk, hG, hOw]
            · rw [hs, if_pos (.inl ⟨i, by omega, by omega, fun _ => by assumption, fun h => (Bool.noConfusion h)⟩)]; exact ⟨rfl, rfl⟩
            · refine ⟨7 - (i + 1), by omega, i + 1, _, nums .i64 ((l ++ (bits7 x).take i) ++ [bitn x i]), ?_, by omega, rfl, rfl, by rw [hT (by omega)], ?_⟩
              · rw [wrap64_id _ (by omega) (by omega)]; rfl
              · intro j hj hbj
                by_cases hji : j = i
                · subst hji; exact absurd (by assumption) (hbj.2.1 rfl)
                · exact hbad j (by omega) hbj
            · refine ⟨7 - (i + 1), by omega, i + 1, _, nums .i64 ((l ++ (bits7 x).take i) ++ [bitn x i]), ?_, by omega, rfl, rfl, by rw [hT (by omega)], ?_⟩
              · rw [wrap64_id _ (by omega) (by omega)]; rfl
              · intro j hj hbj
                by_cases hji : j = i
                · subst hji; have := hbj.1; omega
                · exact hbad j (by omega) hbj
            · have hx128 : x >= 128 := by
                apply Classical.byContradiction; intro hx; rw [if_neg hx] at h7; omega
              rw [hs, if_pos (.inr ⟨by omega, hx128⟩)]; exact ⟨rfl, rfl⟩
            · have hx128 : x < 128 := by
                apply Classical.byContradiction; intro hx; rw [if_pos (by omega)] at h7; omega
              have hi7 : i = 7 := by omega
              rw [if_neg (by rintro (h | ⟨_, h⟩); exact hnb hi7 h; omega), if_pos hx128] at hs
              rw [hs, (hL hi7).1, (hL hi7).2]; exact ⟨rfl, rfl⟩
            · have hx128 : x < 128 := by
                apply Classical.byContradiction; intro hx; rw [if_pos (by omega)] at h7; omega
              have hi7 : i = 7 := by omega
              rw [if_neg (by rintro (h | ⟨_, h⟩); exact hnb hi7 h; omega), if_pos hx128] at hs
              rw [hs, (hL hi7).1, (hL hi7).2]; exact ⟨rfl, rfl⟩
            · have hx128 : x >= 128 := by
                apply Classical.byContradiction; intro hx; rw [if_neg hx] at h7; omega
              have hi7 : i = 7 := by omega
              rw [if_neg (by rintro (h | ⟨h, _⟩); exact hnb hi7 h; omega), if_neg (by omega)] at hs
              refine ⟨xs.length - (a0 + (k + 1)), by omega, k + 1, l ++ bits7 x, ?_, by omega, rfl, by omega, by rw [<- (hL hi7).2, hi7]; omega, by rw [hA2]; exact hs⟩
              rw [(hL hi7).1, (hL hi7).2, wrap64_id _ (by omega) (by omega)]; rfl
      · have hW : IntKind.i64.wrap ((a0 : Int) + (k : Int)) = ((a0 + k : Nat) : Int) := wrap64_id _ (by omega) (by omega)
        have nx : type_of% @hW /\ True := ⟨@hW, trivial⟩
        refine' stdec476
        all_goals try simp (disch := omega) only [NSX, St.keepS, Nat.reduceBEq, Nat.reduceAdd, Nat.reduceMul, Int.reduceToNat, Nat.reduceSub, TY, SLS, List.set_cons_zero, List.set_cons_succ, nums_length, S20, T20, hW]
        · rw [List.drop_of_length_le (by omega)] at hs
          rw [hs]; exact ⟨rfl, rfl⟩
        all_goals (exfalso; omega)
  all_goals (rw [rSpec, if_pos (by omega)]; exact ⟨rfl, rfl⟩)
end Go.Proofs.Yteppkbaeacndiaa
namespace Go.Proofs.Yteppkbaeacndiaa
set_option maxRecDepth 20000
open Go Go.Abs
def val : List Int -> Int
  | [] => 0
  | b :: l => b + 2 * val l
def bits01 (l : List Int) : Prop := ∀ b ∈ l, b = 0 \/ b = 1
theorem val_append (a b : List Int) : val (a ++ b) = val a + 2 ^ a.length * val b := by
  induction a with
  | nil => simp [val]
  | cons x a ih =>
    simp only [List.cons_append, val, ih, List.length_cons, Int.pow_succ]
    rw [Int.mul_add, Int.mul_comm (2 ^ a.length) 2, Int.mul_assoc]; omega
theorem val_bound {l : List Int} (h : bits01 l) : 0 <= val l /\ val l < 2 ^ l.length := by
  induction l with
  | nil => exact ⟨by decide, by decide⟩
  | cons x l ih =>
    have h1 := ih (fun b hb => h b (List.mem_cons_of_mem _ hb))
    have h2 := h x (List.mem_cons_self ..)
    simp only [val, List.length_cons, Int.pow_succ]
    omega
theorem bits7_01 (x : Int) : bits01 (bits7 x) := by
  intro b hb
  simp only [bits7, List.mem_cons, List.not_mem_nil, or_false] at hb
  rcases hb with rfl | rfl | rfl | rfl | rfl | rfl | rfl <;> exact bitn_2 _ _
theorem bits01_append {a b : List Int} (ha : bits01 a) (hb : bits01 b) : bits01 (a ++ b) := by
  intro x hx; rcases List.mem_append.1 hx with h | h
  · exact ha x h
  · exact hb x h
theorem rRd_01 (sg : Bool) (bits : Int) : ∀ (xs : List Int) (k : Nat) (l : List Int) (at_ : Int), bits01 l -> bits01 (rRd sg bits xs k l at_).1
  | [], _, _, _, _ => by intro b hb; cases hb
  | x :: t, k, l, at_, h => by
    rw [rRd]
    split
    · intro b hb; cases hb
    · split
      · exact bits01_append h (bits7_01 x)
      · exact rRd_01 sg bits t (k + 1) _ _ (bits01_append h (bits7_01 x))
theorem rSpec_01 (sg : Bool) (xs : List Int) (at_ bits : Int) : bits01 (rSpec sg xs at_ bits).1 := by
  rw [rSpec]; split
  · intro b hb; cases hb
  · exact rRd_01 _ _ _ _ _ _ (fun b hb => by cases hb)
theorem rRd_len (sg : Bool) (bits : Int) : ∀ (xs : List Int) (k : Nat) (l : List Int) (at_ : Int), (rRd sg bits xs k l at_).1.length <= l.length + 7 * xs.length /\ ((rRd sg bits xs k l at_).2.2 = 0 -> (rRd sg bits xs k l at_).1 ≠ [])
  | [], _, _, _ => ⟨Nat.zero_le _, by rw [rRd]; intro h; cases h⟩
  | x :: t, k, l, at_ => by
    rw [rRd]
    split
    · exact ⟨Nat.zero_le _, fun h => by cases h⟩
    · split
      · refine ⟨by rw [List.length_append, bits7_len, List.length_cons]; omega, fun _ h => ?_⟩
        have := congrArg List.length h
        rw [List.length_append, bits7_len] at this; simp at this
      · have := rRd_len sg bits t (k + 1) (l ++ bits7 x) (at_ + 1)
        rw [List.length_append, bits7_len] at this
        exact ⟨by rw [List.length_cons]; omega, this.2⟩
theorem rSpec_len (sg : Bool) (xs : List Int) (at_ bits : Int) : (rSpec sg xs at_ bits).1.length <= 7 * xs.length /\ ((rSpec sg xs at_ bits).2.2 = 0 -> (rSpec sg xs at_ bits).1 ≠ []) := by
  rw [rSpec]; split
  · exact ⟨Nat.zero_le _, fun h => by cases h⟩
  · have := rRd_len sg bits (xs.drop at_.toNat) 0 [] at_
    rw [List.length_drop] at this
    exact ⟨by simp only [List.length_nil] at this; omega, this.2⟩
theorem val_step {l : List Int} {i : Nat} {b : Int} (hl : bits01 l) (hi : l.length = i) (h64 : i < 64) (hb : b = 0 \/ b = 1) :
    bitsOp .or .u64 (val l) (IntKind.u64.wrap (b * 2 ^ min i IntKind.u64.bits)) = val (l ++ [b]) := by
  have h1 := val_bound hl
  rw [hi] at h1
  have e2 : (2 : Int) ^ (i + 1) <= 2 ^ 64 := by exact_mod_cast Nat.pow_le_pow_right (by decide) (by omega)
  have e3 : (2 : Int) ^ (i + 1) = 2 ^ i * 2 := Int.pow_succ ..
  have e4 : b * 2 ^ i = 0 \/ b * 2 ^ i = 2 ^ i := by rcases hb with rfl | rfl <;> simp
  rw [show min i IntKind.u64.bits = i from Nat.min_eq_left (by show _ <= 64; omega)]
  rw [wrap_in (k := .u64) rfl (by omega) (by show _ < (2 : Int) ^ 64; omega), or_add (k := .u64) i h1.1 h1.2 (by omega) (by show _ < (2 : Int) ^ 64; omega) (.inl rfl), val_append, hi]
  simp only [val, Int.mul_zero, Int.add_zero]
  rw [Int.mul_comm b]
end Go.Proofs.Yteppkbaeacndiaa
namespace Go.Proofs.Yteppkbaeacndiaa
set_option maxRecDepth 20000
open Go Go.Abs
attribute [local irreducible] AW AWL AC FW CW CWr IntKind.wrap rSpec
def S12 (o : Nat) (l : List Int) (to e n i : Int) : St :=
  { n := 45, slots := [(9, .ref 9 0 l.length 1), (10, .int .i64 to), (11, .int .i64 e), (12, .int .u64 n), (13, .int .i64 i)], mem := [(o, ⟨true, nums .i64 l⟩)] }
theorem K1RU.kp {P : Program} {c : Code} {Q : Exit -> St -> Prop} {st : St} (h : AW P c Q (st.keepS [0, 1, 2, 6, 7, 8, 9, 10, 11, 12, 13])) : AW P c Q st := AW.keepS _ h
theorem K1RU.sd {p : Prop} (h : p := by first | exact sd61c204 | exact sd941bfa) : p := h
open K1RU in
set_option maxRecDepth 4000 in
set_option maxHeartbeats 1000000 in
theorem ru_ok (xs : List Int) (hb : bytes xs) (hlen : xs.length <= 1000000000000000) (at_ bits : Int) :
    AC Try.prog 57 [.view xs.length 1 (nums .u8 xs), .int .i64 at_, .int .i64 bits] (fun r m => r = .tup [.int .u64 (val ((rSpec false xs at_ bits).1.take 64)), .int .i64 (rSpec false xs at_ bits).2.1, .int .i64 (rSpec false xs at_ bits).2.2] /\ m = []) := by
  have h01 := rSpec_01 false xs at_ bits
  have hln := (rSpec_len false xs at_ bits).1
  refine AC.enter Try.func57 rfl (Nat.le_of_ble_eq_true rfl) ?_
  simp only [Try.f57]
  have nx : True := trivial
  refine' st3b6613
  generalize rSpec false xs at_ bits = q at *
  obtain ⟨l, to, e⟩ := q
  simp only at h01 hln ⊢
  refine AW.loop [9, 10, 11, 12, 13] [9] (fun w st => ∃ i : Nat, st = S12 9 l to e (val (l.take i)) i /\ i <= l.length /\ i <= 64 /\ w = 64 - i) ?_ ?_
  · exact ⟨_, 0, rfl, by omega, by omega, rfl⟩
  · rintro w st ⟨i, rfl, hi, h64, rfl⟩
    by_cases hil : i < l.length
    · have hbi := h01 _ (getD_mem hil)
      have ht01 : bits01 (l.take i) := fun b hb => h01 b (List.mem_of_mem_take hb)
      have hst := fun h => val_step (i := i) (b := l.getD i 0) ht01 (by rw [List.length_take]; omega) h hbi
      rw [<- take_snoc _ _ hil] at hst
      have e1 : IntKind.u64.wrap (i : Int) = i := wrap_in rfl (by omega) (by show _ < (18446744073709551616 : Int); omega)
      have e2 : IntKind.u64.wrap (l.getD i 0) = l.getD i 0 := wrap_in rfl (by omega) (by show _ < (18446744073709551616 : Int); omega)
      have hOw : (nums .i64 l).getD i .any = .int .i64 (l.getD i 0) := own_getD hil
      by_cases h63 : i < 64
      · have hst := hst h63
        have nx : type_of% @e1 /\ type_of% @e2 /\ type_of% @hOw /\ True := ⟨@e1, ⟨@e2, ⟨@hOw, trivial⟩⟩⟩
        refine' st03f737
        all_goals try simp (disch := omega) only [NSX, St.keepS, Nat.reduceBEq, Nat.reduceAdd, Nat.reduceMul, Int.reduceToNat, Nat.reduceSub, TY, SLS, List.set_cons_zero, List.set_cons_succ, nums_length, S12, e1, e2, hOw, Int.toNat_natCast]
        refine ⟨64 - (i + 1), by omega, i + 1, ?_, by omega, by omega, rfl⟩
        rw [hst, wrap64_id _ (by omega) (by omega)]; rfl
      · have hi64 : i = 64 := by omega
        have nx : type_of% @e1 /\ type_of% @e2 /\ type_of% @hOw /\ True := ⟨@e1, ⟨@e2, ⟨@hOw, trivial⟩⟩⟩
        refine' st03f737
        all_goals try simp (disch := omega) only [NSX, St.keepS, Nat.reduceBEq, Nat.reduceAdd, Nat.reduceMul, Int.reduceToNat, Nat.reduceSub, TY, SLS, List.set_cons_zero, List.set_cons_succ, nums_length, S12, e1, e2, hOw, Int.toNat_natCast]
        rw [hi64]; exact ⟨rfl, trivial⟩
    · have nx : True := trivial
      refine' st3b6613
      all_goals try simp (disch := omega) only [NSX, St.keepS, Nat.reduceBEq, Nat.reduceAdd, Nat.reduceMul, Int.reduceToNat, Nat.reduceSub, TY, SLS, List.set_cons_zero, List.set_cons_succ, nums_length, S12]
      rw [List.take_of_length_le (by omega), List.take_of_length_le (by omega)]; exact ⟨rfl, trivial⟩
end Go.Proofs.Yteppkbaeacndiaa
namespace Go.Proofs.Yteppkbaeacndiaa
set_option maxRecDepth 20000
open Go Go.Abs
attribute [local irreducible] AW AWL AC FW CW CWr IntKind.wrap rSpec
def ext64 (l : List Int) (i : Nat) : List Int := (l ++ List.replicate 64 (l.getD (l.length - 1) 0)).take i
theorem ext64_len (l : List Int) (i : Nat) (h : i <= 64) : (ext64 l i).length = i := by
  rw [ext64, List.length_take, List.length_append, List.length_replicate]; omega
theorem ext64_01 {l : List Int} (h : bits01 l) (i : Nat) : bits01 (ext64 l i) := by
  intro b hb
  have := List.mem_of_mem_take hb
  rcases List.mem_append.1 this with hm | hm
  · exact h b hm
  · rw [(List.mem_replicate.1 hm).2]
    by_cases hl : l.length - 1 < l.length
    · exact h _ (getD_mem hl)
    · left; have : l = [] := List.eq_nil_of_length_eq_zero (by omega); subst this; rfl
theorem ext64_in {l : List Int} {i : Nat} (hi : i < 64) (h : i < l.length) : ext64 l (i + 1) = ext64 l i ++ [l.getD i 0] := by
  rw [ext64, take_snoc _ _ (by rw [List.length_append, List.length_replicate]; omega), ext64]
  congr 2
  rw [List.getD_eq_getElem?_getD, List.getElem?_append_left h, <- List.getD_eq_getElem?_getD]
theorem ext64_out {l : List Int} {i : Nat} (hi : i < 64) (h : l.length <= i) : ext64 l (i + 1) = ext64 l i ++ [l.getD (l.length - 1) 0] := by
  rw [ext64, take_snoc _ _ (by rw [List.length_append, List.length_replicate]; omega), ext64]
  congr 2
  rw [List.getD_eq_getElem?_getD, List.getElem?_append_right h, List.getElem?_replicate, if_pos (by omega)]; rfl
def S14 (l : List Int) (to e n i : Int) : St :=
  { n := 54, slots := [(9, .ref 9 0 l.length 1), (10, .int .i64 to), (11, .int .i64 e), (12, .int .u64 n), (13, .int .i64 i)], mem := [(9, ⟨true, nums .i64 l⟩)] }
theorem K1RS.kp {P : Program} {c : Code} {Q : Exit -> St -> Prop} {st : St} (h : AW P c Q (st.keepS [0, 1, 2, 6, 7, 8, 9, 10, 11, 12, 13, 14])) : AW P c Q st := AW.keepS _ h
theorem K1RS.sd {p : Prop} (h : p := by first | exact sd3250d4 | exact sd66c160) : p := h
open K1RS in
set_option maxRecDepth 4000 in
set_option maxHeartbeats 1000000 in
theorem rs_ok (xs : List Int) (hb : bytes xs) (hlen : xs.length <= 1000000000000000) (at_ bits : Int) :
    AC Try.prog 39 [.view xs.length 1 (nums .u8 xs), .int .i64 at_, .int .i64 bits] (fun r m => r = (if (rSpec true xs at_ bits).2.2 = 0 then .tup [.int .i64 (IntKind.i64.wrap (val (ext64 (rSpec true xs at_ bits).1 64))), .int .i64 (rSpec true xs at_ bits).2.1, .int .i64 0] else .tup [.int .i64 0, .int .i64 0, .int .i64 (rSpec true xs at_ bits).2.2]) /\ m = []) := by
  have h01 := rSpec_01 true xs at_ bits
  have hln := (rSpec_len true xs at_ bits).1
  have hne := (rSpec_len true xs at_ bits).2
  refine AC.enter Try.func39 rfl (Nat.le_of_ble_eq_true rfl) ?_
  simp only [Try.f39]
  have nx : True := trivial
  refine' st754f3b
  · rw [if_neg (by assumption)]; exact ⟨rfl, trivial⟩
  generalize rSpec true xs at_ bits = q at *
  obtain ⟨l, to, e⟩ := q
  simp only at h01 hln hne ⊢
  have hl1 : 1 <= l.length := List.length_pos_iff.2 (hne (by assumption))
  refine AW.loop [9, 10, 11, 12, 13] [9] (fun w st => ∃ i : Nat, st = S14 l to e (val (ext64 l i)) i /\ i <= 64 /\ w = 64 - i) ?_ ?_
  · exact ⟨_, 0, rfl, by omega, rfl⟩
  · rintro w st ⟨i, rfl, h64, rfl⟩
    have e1 : IntKind.u64.wrap (i : Int) = i := wrap_in rfl (by omega) (by show _ < (18446744073709551616 : Int); omega)
    have hOw : ∀ j, j < l.length -> (nums .i64 l).getD j .any = .int .i64 (l.getD j 0) := fun j h => own_getD h
    have eL : IntKind.i64.wrap ((l.length : Int) - 1) = ((l.length - 1 : Nat) : Int) := by rw [wrap64_id _ (by omega) (by omega)]; omega
    have e2 : ∀ j, j < l.length -> IntKind.u64.wrap (l.getD j 0) = l.getD j 0 := fun j h => by
      have := h01 _ (getD_mem h)
      exact wrap_in rfl (by omega) (by show _ < (18446744073709551616 : Int); omega)
    have nx : type_of% @e1 /\ type_of% @e2 /\ type_of% @hOw /\ type_of% @eL /\ True := ⟨@e1, ⟨@e2, ⟨@hOw, ⟨@eL, trivial⟩⟩⟩⟩
    refine' st8e5b21
    all_goals try simp (disch := omega) only [NSX, St.keepS, Nat.reduceBEq, Nat.reduceAdd, Nat.reduceMul, Int.reduceToNat, Nat.reduceSub, TY, SLS, List.set_cons_zero, List.set_cons_succ, nums_length, S14, e1, e2, hOw, eL, Int.toNat_natCast]
    · have hst := val_step (i := i) (b := l.getD i 0) (ext64_01 h01 i) (ext64_len l i h64) (by omega) (h01 _ (getD_mem (by omega)))
      refine ⟨64 - (i + 1), by omega, i + 1, ?_, by omega, rfl⟩
      rw [hst, wrap64_id _ (by omega) (by omega), <- ext64_in (by omega) (by omega)]; rfl
    · have hst := val_step (i := i) (b := l.getD (l.length - 1) 0) (ext64_01 h01 i) (ext64_len l i h64) (by omega) (h01 _ (getD_mem (by omega)))
      refine ⟨64 - (i + 1), by omega, i + 1, ?_, by omega, rfl⟩
      rw [hst, wrap64_id _ (by omega) (by omega), <- ext64_out (by omega) (by omega)]; rfl
    · have hi64 : i = 64 := by omega
      rw [hi64, if_pos (by assumption)]; exact ⟨rfl, trivial⟩
end Go.Proofs.Yteppkbaeacndiaa
