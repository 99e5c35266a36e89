/- Step lists. -/
import Derived.Test.YtimhmpdfioihlaaGreatDoorDP
import Derived.Test.YtimhmpdfioihlaaGreatDoorGCB
import Derived.Test.YtimhmpdfioihlaaGreatDoorV4
import Derived.Test.YtimhmpdfioihlaaGreatDoorGV6
set_option linter.unusedSimpArgs false
set_option linter.unusedVariables false
set_option maxHeartbeats 12800000
namespace Go.Abs
open Go Go.RowKit
end Go.Abs
namespace Go.Proofs.YtimhmpdfioihlaaGreatDoor
open Go Go.Abs
theorem ZET:ZbH Tryz.prog (.int .i64) (.inl 2):= .int (by kernel_rfl)
theorem Zcg:ZbH Tryz.prog (.int .i64) (.inl 3):= .int (by kernel_rfl)
theorem Zyf:ZbH Tryz.prog (.bool) (.inl 4):= .bool (by kernel_rfl)
theorem ZCx:ZbH Tryz.prog (.int .u8) (.inl 5):= .int (by kernel_rfl)
theorem Zrx:ZbH Tryz.prog (.str) (.inl 9):= .str (by kernel_rfl)
theorem ZGt:ZbH Tryz.prog (.int .u64) (.inl 12):= .int (by kernel_rfl)
theorem ZGu:ZbH Tryz.prog (.int .i32) (.inl 21):= .int (by kernel_rfl)
theorem Zf6:ZbH Tryz.prog (.sl (.int .i64)) (.inl 24):= .sl (by kernel_rfl:Go.Program.underlying Tryz.prog 24=some (.slice 3)) (by kernel_rfl) Zcg
theorem ZCy:ZbH Tryz.prog (.pair (.sl (.int .i64)) (.sl (.int .i64))) (.inl 44):= .st Tryz.underlying44 (.cons (by kernel_rfl) (by kernel_rfl) Zf6 (.one (by kernel_rfl) (by kernel_rfl) Zf6))
theorem ZCz:ZbH Tryz.prog (.sl (.pair (.sl (.int .i64)) (.sl (.int .i64)))) (.inl 22):= .sl (by kernel_rfl:Go.Program.underlying Tryz.prog 22=some (.slice 44)) (by kernel_rfl) ZCy
theorem ZCA:ZbH Tryz.prog (.pair (.str) (.pair (.str) (.int .i64))) (.inl 47):= .st Tryz.underlying47 (.cons (by kernel_rfl) (by kernel_rfl) Zrx (.cons (by kernel_rfl) (by kernel_rfl) Zrx (.one (by kernel_rfl) (by kernel_rfl) Zcg)))
theorem ZCB:ZbH Tryz.prog (.sl (.pair (.str) (.pair (.str) (.int .i64)))) (.inl 23):= .sl (by kernel_rfl:Go.Program.underlying Tryz.prog 23=some (.slice 47)) (by kernel_rfl) ZCA
theorem ZCC:ZbH Tryz.prog (.pair (.int .i64) (.int .i64)) (.inl 77):= .st Tryz.underlying77 (.cons (by kernel_rfl) (by kernel_rfl) Zcg (.one (by kernel_rfl) (by kernel_rfl) Zcg))
theorem ZzV:ZbH Tryz.prog (.sl (.pair (.int .i64) (.int .i64))) (.inl 25):= .sl (by kernel_rfl:Go.Program.underlying Tryz.prog 25=some (.slice 77)) (by kernel_rfl) ZCC
theorem Zm0:ZbH Tryz.prog (.int .u64) (.inl 48):= .int (by kernel_rfl)
theorem ZCD:ZbH Tryz.prog (.pair (.int .i64) (.pair (.int .i64) (.pair (.int .i64) (.pair (.int .u64) (.pair (.int .u64) (.sl (.int .i64))))))) (.inl 50):= .st Tryz.underlying50 (.cons (by kernel_rfl) (by kernel_rfl) Zcg (.cons (by kernel_rfl) (by kernel_rfl) Zcg (.cons (by kernel_rfl) (by kernel_rfl) Zcg (.cons (by kernel_rfl) (by kernel_rfl) Zm0 (.cons (by kernel_rfl) (by kernel_rfl) Zm0 (.one (by kernel_rfl) (by kernel_rfl) Zf6))))))
theorem Zqn:ZbH Tryz.prog (.sl (.pair (.int .i64) (.pair (.int .i64) (.pair (.int .i64) (.pair (.int .u64) (.pair (.int .u64) (.sl (.int .i64)))))))) (.inl 51):= .sl (by kernel_rfl:Go.Program.underlying Tryz.prog 51=some (.slice 50)) (by kernel_rfl) ZCD
theorem ZCE:ZbH Tryz.prog (.pair (.int .i64) (.pair (.bool) (.sl (.pair (.int .i64) (.pair (.int .i64) (.pair (.int .i64) (.pair (.int .u64) (.pair (.int .u64) (.sl (.int .i64)))))))))) (.inl 82):= .st Tryz.underlying82 (.cons (by kernel_rfl) (by kernel_rfl) Zcg (.cons (by kernel_rfl) (by kernel_rfl) Zyf (.one (by kernel_rfl) (by kernel_rfl) Zqn)))
theorem ZCF:ZbH Tryz.prog (.sl (.pair (.int .i64) (.pair (.bool) (.sl (.pair (.int .i64) (.pair (.int .i64) (.pair (.int .i64) (.pair (.int .u64) (.pair (.int .u64) (.sl (.int .i64))))))))))) (.inl 26):= .sl (by kernel_rfl:Go.Program.underlying Tryz.prog 26=some (.slice 82)) (by kernel_rfl) ZCE
theorem ZCG:ZbH Tryz.prog (.pair (.str) (.pair (.int .i64) (.int .i64))) (.inl 55):= .st Tryz.underlying55 (.cons (by kernel_rfl) (by kernel_rfl) Zrx (.cons (by kernel_rfl) (by kernel_rfl) Zcg (.one (by kernel_rfl) (by kernel_rfl) Zcg)))
theorem ZCH:ZbH Tryz.prog (.sl (.pair (.str) (.pair (.int .i64) (.int .i64)))) (.inl 27):= .sl (by kernel_rfl:Go.Program.underlying Tryz.prog 27=some (.slice 55)) (by kernel_rfl) ZCG
theorem ZCI:ZbH Tryz.prog (.pair (.sl (.pair (.int .i64) (.pair (.int .i64) (.pair (.int .i64) (.pair (.int .u64) (.pair (.int .u64) (.sl (.int .i64)))))))) (.sl (.int .i64))) (.inl 57):= .st Tryz.underlying57 (.cons (by kernel_rfl) (by kernel_rfl) Zqn (.one (by kernel_rfl) (by kernel_rfl) Zf6))
theorem ZCJ:ZbH Tryz.prog (.sl (.pair (.sl (.pair (.int .i64) (.pair (.int .i64) (.pair (.int .i64) (.pair (.int .u64) (.pair (.int .u64) (.sl (.int .i64)))))))) (.sl (.int .i64)))) (.inl 28):= .sl (by kernel_rfl:Go.Program.underlying Tryz.prog 28=some (.slice 57)) (by kernel_rfl) ZCI
theorem ZCK:ZbH Tryz.prog (.pair (.sl (.int .i64)) (.sl (.pair (.int .i64) (.pair (.int .i64) (.pair (.int .i64) (.pair (.int .u64) (.pair (.int .u64) (.sl (.int .i64))))))))) (.inl 53):= .st Tryz.underlying53 (.cons (by kernel_rfl) (by kernel_rfl) Zf6 (.one (by kernel_rfl) (by kernel_rfl) Zqn))
theorem ZCL:ZbH Tryz.prog (.sl (.pair (.sl (.int .i64)) (.sl (.pair (.int .i64) (.pair (.int .i64) (.pair (.int .i64) (.pair (.int .u64) (.pair (.int .u64) (.sl (.int .i64)))))))))) (.inl 29):= .sl (by kernel_rfl:Go.Program.underlying Tryz.prog 29=some (.slice 53)) (by kernel_rfl) ZCK
theorem Zh2:ZbH Tryz.prog (.sl (.int .u8)) (.inl 34):= .sl (by kernel_rfl:Go.Program.underlying Tryz.prog 34=some (.slice 5)) (by kernel_rfl) ZCx
theorem ZCM:ZbH Tryz.prog (.pair (.sl (.pair (.int .i64) (.pair (.int .i64) (.pair (.int .i64) (.pair (.int .u64) (.pair (.int .u64) (.sl (.int .i64)))))))) (.sl (.int .u8))) (.inl 59):= .st Tryz.underlying59 (.cons (by kernel_rfl) (by kernel_rfl) Zqn (.one (by kernel_rfl) (by kernel_rfl) Zh2))
theorem ZCN:ZbH Tryz.prog (.sl (.pair (.sl (.pair (.int .i64) (.pair (.int .i64) (.pair (.int .i64) (.pair (.int .u64) (.pair (.int .u64) (.sl (.int .i64)))))))) (.sl (.int .u8)))) (.inl 30):= .sl (by kernel_rfl:Go.Program.underlying Tryz.prog 30=some (.slice 59)) (by kernel_rfl) ZCM
theorem ZGv:ZbH Tryz.prog (.pair (.sl (.pair (.sl (.int .i64)) (.sl (.int .i64)))) (.pair (.sl (.pair (.str) (.pair (.str) (.int .i64)))) (.pair (.sl (.int .i64)) (.pair (.sl (.pair (.int .i64) (.int .i64))) (.pair (.sl (.pair (.int .i64) (.int .i64))) (.pair (.sl (.pair (.int .i64) (.pair (.bool) (.sl (.pair (.int .i64) (.pair (.int .i64) (.pair (.int .i64) (.pair (.int .u64) (.pair (.int .u64) (.sl (.int .i64))))))))))) (.pair (.sl (.pair (.str) (.pair (.int .i64) (.int .i64)))) (.pair (.int .i64) (.pair (.sl (.pair (.sl (.pair (.int .i64) (.pair (.int .i64) (.pair (.int .i64) (.pair (.int .u64) (.pair (.int .u64) (.sl (.int .i64)))))))) (.sl (.int .i64)))) (.pair (.sl (.pair (.sl (.int .i64)) (.sl (.pair (.int .i64) (.pair (.int .i64) (.pair (.int .i64) (.pair (.int .u64) (.pair (.int .u64) (.sl (.int .i64)))))))))) (.sl (.pair (.sl (.pair (.int .i64) (.pair (.int .i64) (.pair (.int .i64) (.pair (.int .u64) (.pair (.int .u64) (.sl (.int .i64)))))))) (.sl (.int .u8)))))))))))))) (.inl 32):= .st Tryz.underlying32 (.cons (by kernel_rfl) (by kernel_rfl) ZCz (.cons (by kernel_rfl) (by kernel_rfl) ZCB (.cons (by kernel_rfl) (by kernel_rfl) Zf6 (.cons (by kernel_rfl) (by kernel_rfl) ZzV (.cons (by kernel_rfl) (by kernel_rfl) ZzV (.cons (by kernel_rfl) (by kernel_rfl) ZCF (.cons (by kernel_rfl) (by kernel_rfl) ZCH (.cons (by kernel_rfl) (by kernel_rfl) Zcg (.cons (by kernel_rfl) (by kernel_rfl) ZCJ (.cons (by kernel_rfl) (by kernel_rfl) ZCL (.one (by kernel_rfl) (by kernel_rfl) ZCN)))))))))))
theorem Zm1:ZbH Tryz.prog (.int .i64) (.inl 35):= .int (by kernel_rfl)
theorem ZGw:ZbH Tryz.prog (.pair (.sl (.int .u8)) (.bool)) (.inl 63):= .st Tryz.underlying63 (.cons (by kernel_rfl) (by kernel_rfl) Zh2 (.one (by kernel_rfl) (by kernel_rfl) Zyf))
theorem ZGx:ZbH Tryz.prog (.pair (.sl (.int .u8)) (.bool)) (.inl 64):= .st Tryz.underlying64 (.cons (by kernel_rfl) (by kernel_rfl) Zh2 (.one (by kernel_rfl) (by kernel_rfl) Zyf))
theorem ZGy:ZbH Tryz.prog (.int .i64) (.inl 95):= .st Tryz.underlying95 (.one (by kernel_rfl) (by kernel_rfl) Zm1)
theorem ZGz:ZbH Tryz.prog (.int .i64) (.inl 96):= .st Tryz.underlying96 (.one (by kernel_rfl) (by kernel_rfl) Zm1)
theorem ZGA:ZbH Tryz.prog (.pair (.sl (.int .u8)) (.pair (.int .i64) (.int .i64))) (.inl 99):= .st Tryz.underlying99 (.cons (by kernel_rfl) (by kernel_rfl) Zh2 (.cons (by kernel_rfl) (by kernel_rfl) Zcg (.one (by kernel_rfl) (by kernel_rfl) Zcg)))
theorem ZEU:ZbH Tryz.prog (.pair (.sl (.int .u8)) (.pair (.int .i64) (.int .i64))) (.inl 100):= .st Tryz.underlying100 (.cons (by kernel_rfl) (by kernel_rfl) Zh2 (.cons (by kernel_rfl) (by kernel_rfl) Zcg (.one (by kernel_rfl) (by kernel_rfl) Zcg)))
theorem ZEV:ZbH Tryz.prog (.pair (.sl (.int .u8)) (.pair (.int .i64) (.pair (.int .i64) (.int .i64)))) (.inl 142):= .st Tryz.underlying142 (.cons (by kernel_rfl) (by kernel_rfl) Zh2 (.cons (by kernel_rfl) (by kernel_rfl) Zcg (.cons (by kernel_rfl) (by kernel_rfl) Zcg (.one (by kernel_rfl) (by kernel_rfl) Zm1))))
theorem ZEW:ZbH Tryz.prog (.sl (.int .u64)) (.inl 147):= .sl (by kernel_rfl:Go.Program.underlying Tryz.prog 147=some (.slice 48)) (by kernel_rfl) Zm0
theorem ZEX:ZbH Tryz.prog (.int .u64) (.inl 148):= .int (by kernel_rfl)
theorem ZEY:ZbH Tryz.prog (.pair (.int .i64) (.pair (.int .i64) (.pair (.bool) (.pair (.sl (.int .i64)) (.sl (.int .i64)))))) (.inl 169):= .st Tryz.underlying169 (.cons (by kernel_rfl) (by kernel_rfl) Zcg (.cons (by kernel_rfl) (by kernel_rfl) Zcg (.cons (by kernel_rfl) (by kernel_rfl) Zyf (.cons (by kernel_rfl) (by kernel_rfl) Zf6 (.one (by kernel_rfl) (by kernel_rfl) Zf6)))))
theorem ZAH:ZbH Tryz.prog (.pair (.int .i64) (.pair (.int .i64) (.pair (.int .i64) (.pair (.int .i64) (.str))))) (.inl 182):= .st Tryz.underlying182 (.cons (by kernel_rfl) (by kernel_rfl) Zcg (.cons (by kernel_rfl) (by kernel_rfl) Zcg (.cons (by kernel_rfl) (by kernel_rfl) Zcg (.cons (by kernel_rfl) (by kernel_rfl) Zcg (.one (by kernel_rfl) (by kernel_rfl) Zrx)))))
theorem ZEZ:ZbH Tryz.prog (.sl (.pair (.int .i64) (.pair (.int .i64) (.pair (.int .i64) (.pair (.int .i64) (.str)))))) (.inl 179):= .sl (by kernel_rfl:Go.Program.underlying Tryz.prog 179=some (.slice 182)) (by kernel_rfl) ZAH
theorem ZE0:ZbH Tryz.prog (.pair (.int .i64) (.pair (.int .i64) (.pair (.int .i64) (.pair (.int .i64) (.str))))) (.inl 181):= .st Tryz.underlying181 (.cons (by kernel_rfl) (by kernel_rfl) Zcg (.cons (by kernel_rfl) (by kernel_rfl) Zcg (.cons (by kernel_rfl) (by kernel_rfl) Zcg (.cons (by kernel_rfl) (by kernel_rfl) Zcg (.one (by kernel_rfl) (by kernel_rfl) Zrx)))))
theorem ZE1:ZbH Tryz.prog (.sl (.int .i64)) (.inl 183):= .sl (by kernel_rfl:Go.Program.underlying Tryz.prog 183=some (.slice 2)) (by kernel_rfl) ZET
theorem ZE2:ZbH Tryz.prog (.arr 16 (.int .u8)) (.inl 185):= .arr (by kernel_rfl:Go.Program.underlying Tryz.prog 185=some (.array 16 5)) (by kernel_rfl) ZCx
theorem ZE3:ZbH Tryz.prog (.pair (.int .u64) (.int .u64)) (.inl 188):= .st Tryz.underlying188 (.cons (by kernel_rfl) (by kernel_rfl) Zm0 (.one (by kernel_rfl) (by kernel_rfl) Zm0))
theorem ZE4:ZbH Tryz.prog (.pair (.sl (.int .u8)) (.pair (.int .i64) (.pair (.sl (.int .i64)) (.int .i64)))) (.inl 193):= .st Tryz.underlying193 (.cons (by kernel_rfl) (by kernel_rfl) Zh2 (.cons (by kernel_rfl) (by kernel_rfl) Zcg (.cons (by kernel_rfl) (by kernel_rfl) Zf6 (.one (by kernel_rfl) (by kernel_rfl) Zm1))))
theorem ZE5:ZbH Tryz.prog (.pair (.sl (.int .u8)) (.pair (.int .i64) (.pair (.sl (.int .i64)) (.int .i64)))) (.inl 194):= .st Tryz.underlying194 (.cons (by kernel_rfl) (by kernel_rfl) Zh2 (.cons (by kernel_rfl) (by kernel_rfl) Zcg (.cons (by kernel_rfl) (by kernel_rfl) Zf6 (.one (by kernel_rfl) (by kernel_rfl) Zm1))))
theorem ZE6:ZbH Tryz.prog (.sl (.str)) (.inl 209):= .sl (by kernel_rfl:Go.Program.underlying Tryz.prog 209=some (.slice 9)) (by kernel_rfl) Zrx
theorem ZE7:ZbH Tryz.prog (.int .u32) (.inl 216):= .int (by kernel_rfl)
theorem ZE8:ZbH Tryz.prog (.int .i8) (.inl 221):= .int (by kernel_rfl)
end Go.Proofs.YtimhmpdfioihlaaGreatDoor
namespace Go.Proofs.YtimhmpdfioihlaaGreatDoor
set_option maxRecDepth 20000
open Go Go.Abs
def SL:TypeId->List (Nat×Nat):=fun t=>if t=50 then[(5,1)]else if t=194 then[(2,1)]else if t=169 then[(3,1),(4,1)]else if t=24 then[(0,1)]else if t=53 then[(0,1)]else[]
theorem SLS:SL 2=[]/\SL 3=[]/\SL 4=[]/\SL 5=[]/\SL 9=[]/\SL 12=[]/\SL 20=[]/\SL 22=[]/\SL 23=[]/\SL 24=[(0,1)]/\SL 25=[]/\SL 26=[]/\SL 27=[]/\SL 28=[]/\SL 29=[]/\SL 30=[]/\SL 32=[]/\SL 34=[]/\SL 35=[]/\SL 44=[]/\SL 45=[]/\SL 47=[]/\SL 48=[]/\SL 50=[(5,1)]/\SL 51=[]/\SL 53=[(0,1)]/\SL 55=[]/\SL 57=[]/\SL 59=[]/\SL 62=[]/\SL 64=[]/\SL 77=[]/\SL 82=[]/\SL 96=[]/\SL 98=[]/\SL 100=[]/\SL 140=[]/\SL 142=[]/\SL 147=[]/\SL 148=[]/\SL 152=[]/\SL 169=[(3,1),(4,1)]/\SL 179=[]/\SL 182=[]/\SL 183=[]/\SL 185=[]/\SL 188=[]/\SL 192=[]/\SL 194=[(2,1)]/\SL 209=[]/\SL 216=[]/\SL 221=[]:=⟨rfl,rfl,rfl,rfl,rfl,rfl,rfl,rfl,rfl,rfl,rfl,rfl,rfl,rfl,rfl,rfl,rfl,rfl,rfl,rfl,rfl,rfl,rfl,rfl,rfl,rfl,rfl,rfl,rfl,rfl,rfl,rfl,rfl,rfl,rfl,rfl,rfl,rfl,rfl,rfl,rfl,rfl,rfl,rfl,rfl,rfl,rfl,rfl,rfl,rfl,rfl,rfl⟩
theorem Zjo:Tryz.prog.follows .mixedOrders=true:=by kernel_rfl
abbrev Row:=Int×Int×Int×Int×List UInt8
def ZdC:List Row:=[(0,0,1,0,[]),(1,1,1,0,[58]),(2,4,2,0,[]),(5,5,1,0,[]),(11,11,1,0,[]),(12,13,3,0,[]),(14,14,4,0,[]),(15,15,1,0,[]),(16,16,5,0,[]),(17,17,6,0,[]),(26,27,1,0,[]),(32,36,5,0,[]),(40,40,7,2,[105,58,105]),(41,41,7,3,[105,58,108]),(44,45,7,0,[105,58,105]),(46,47,7,1,[105,58,105]),(48,49,7,0,[105,58,108]),(50,51,7,1,[105,58,108]),(52,53,7,2,[105,58,108]),(54,54,7,2,[105,105,58]),(55,55,7,3,[105,108,58]),(58,58,7,0,[105,105,58]),(59,59,7,1,[105,105,58]),(60,60,7,0,[105,108,58]),(61,61,7,1,[105,108,58]),(62,62,7,2,[105,108,58]),(63,63,14,0,[58,105]),(64,64,14,0,[105,58,105]),(65,65,9,0,[58,105]),(66,66,10,0,[58,108]),(69,69,1,0,[105,58,105]),(70,79,1,0,[105,105,58,105]),(80,80,1,0,[108,58,105]),(81,90,1,0,[108,108,58,105]),(103,105,1,0,[105,58,105]),(106,120,1,0,[105,105,58,105]),(121,123,1,0,[108,58,108]),(124,138,1,0,[108,108,58,108]),(167,167,1,0,[108,58,105]),(172,173,1,0,[105,58,108]),(192,193,1,0,[105,58,105]),(194,196,1,0,[108,58,108])]
def ZeF:List Row:=[(64768,64768,7,4,[105,58,118]),(64769,64774,7,3,[105,58,118]),(64775,64775,7,0,[105,58,118]),(64776,64776,7,1,[105,58,118]),(64777,64777,7,2,[105,58,118]),(64778,64778,7,3,[105,58,118]),(64779,64779,7,4,[105,118,58]),(64780,64780,11,0,[58,118]),(64781,64781,12,0,[118,118,58,118]),(64782,64782,1,0,[118,118,58,118]),(64783,64785,1,0,[105,58,118]),(64786,64786,1,0,[108,58,118]),(64789,64790,13,16,[118,58,105]),(64791,64791,13,16,[118,105,58,118]),(64792,64793,13,8,[118,58,105]),(64794,64794,13,8,[118,105,58,118]),(64795,64795,13,4,[118,58,105]),(64796,64796,13,4,[118,105,58,118]),(64797,64797,13,2,[118,58,108]),(64798,64798,13,2,[118,108,58,118]),(64803,64832,1,0,[118,118,58,118]),(64845,64845,1,0,[118,58,118]),(64846,64849,1,0,[118,118,58,118]),(64850,64850,1,0,[118,118,118,58,118]),(64851,64851,1,0,[118,58,105]),(64852,64852,8,0,[105,118,58,118]),(64853,64853,8,1,[105,118,58,118]),(64854,64854,8,2,[105,118,58,118]),(64855,64855,8,3,[105,118,58,118]),(64856,64856,8,0,[105,118,58]),(64857,64857,8,1,[105,118,58]),(64858,64858,8,2,[105,118,58]),(64859,64859,8,3,[105,118,58]),(64860,64860,7,2,[105,58,118]),(64861,64861,7,3,[105,58,118]),(64864,64866,1,0,[118,58,118]),(64867,64868,1,0,[118,58,105]),(64869,64870,1,0,[118,118,58,118]),(64875,64877,1,0,[118,105,58,118]),(64878,64883,1,0,[118,118,58,118]),(64886,64889,1,0,[118,118,58,118]),(64891,64891,1,0,[118,118,58,118]),(64892,64897,1,0,[118,58,118]),(64898,64898,1,0,[118,118,58,118]),(64899,64900,1,0,[118,58,105]),(64901,64902,1,0,[118,118,58,118]),(64903,64906,1,0,[118,58,118]),(64907,64909,1,0,[118,105,58,118]),(64910,64915,1,0,[118,118,58,118]),(64917,64921,1,0,[118,118,58,118]),(64923,64927,1,0,[118,118,58,118]),(64928,64929,1,0,[118,58,118]),(64931,64932,1,0,[118,58,105]),(64935,64938,1,0,[118,58,118]),(64939,64941,1,0,[118,105,58,118]),(64942,64942,1,0,[118,118,58,118]),(64945,64945,1,0,[118,118,58,118]),(64949,64954,1,0,[118,118,58,118]),(64956,64959,1,0,[118,118,58,118]),(64960,64961,1,0,[118,58,118]),(64963,64964,1,0,[118,58,105]),(64967,64970,1,0,[118,58,118]),(64971,64973,1,0,[118,105,58,118]),(64974,64974,1,0,[118,118,58,118]),(64977,64977,1,0,[118,118,58,118]),(64981,64991,1,0,[118,118,58,118])]
def ZwE:List Row:=ZdC++ZeF
def ZCd (r:Row):List V:=[.int .i64 r.1,.int .i64 r.2.1,.int .i64 r.2.2.1,.int .i64 r.2.2.2.1,.str r.2.2.2.2]
def Zqo:List Row->List V
 |[]=>[]
 |r::l=>ZCd r++Zqo l
def Zjp:Row:=(0,0,0,0,[])
theorem Zqp (l:List Row):(Zqo l).length=l.length*5:=by
 induction l with
 |nil=>rfl
 |cons x l ih=>rw[Zqo,Yal,ih,Yag];show 5+_=_;omega
theorem Zm2 {l:List Row}{k:Nat}(hk:k<l.length):(Zqo l).drop (k*5)=ZCd (l.getD k Zjp)++Zqo (l.drop (k+1)):=by
 induction l generalizing k with
 |nil=>exact absurd hk (Nat.not_lt_zero _)
 |cons x l ih=>
  cases k with
  |zero=>simp[Zqo]
  |succ k=>
   rw[Zqo,show(k+1)*5=(ZCd x).length+k*5 from by show _=5+_;omega,List.drop_append,Ya7 (by omega),List.nil_append,Nat.add_sub_cancel_left,ih (by simpa using hk)]
   simp
theorem Zyg {l:List Row}{k:Nat}(hk:k<l.length):List.take 5 (List.drop (k*5) (Zqo l))=ZCd (l.getD k Zjp):=by
 rw[Zm2 hk];rfl
theorem Zyh {l:List Row}{k:Nat}(hk:k<l.length):5<=(List.drop (k*5) (Zqo l)).length:=by
 rw[Zm2 hk,Yal];show 5<=5+_;omega
def Zd4 (op:Int):List Row->Option Row
 |[]=>none
 |r::l=>if op<r.1\/op>r.2.1 then Zd4 op l else some r
theorem ZuI (op:Int)(a b:List Row):Zd4 op (a++b)=(Zd4 op a).or (Zd4 op b):=by
 induction a with
 |nil=>rfl
 |cons r a ih=>
  rw[List.cons_append,Zd4,Zd4];split
  ·exact ih
  ·rfl
theorem Zjq (op:Int){a:List Row}(h: ∀r∈a,op<r.1\/op>r.2.1):Zd4 op a=none:=by
 induction a with
 |nil=>rfl
 |cons r a ih=>rw[Zd4,if_pos (h r (List.mem_cons_self ..)),ih (fun x hx=>h x (Yaq _ hx))]
theorem Zm3 {op:Int}{a:List Row}{r:Row}(h:Zd4 op a=some r):r∈a/\r.1<=op/\op<=r.2.1:=by
 induction a with
 |nil=>cases h
 |cons x a ih=>
  rw[Zd4]at h;split at h
  ·exact⟨Yaq _ (ih h).1,(ih h).2⟩
  ·cases h;exact⟨List.mem_cons_self ..,by omega,by omega⟩
theorem Zyi {op:Int}{l:List Row}{k:Nat}(hk:k<l.length)(h: ∀j,j<k->op<(l.getD j Zjp).1\/op>(l.getD j Zjp).2.1)(h2: ¬(op<(l.getD k Zjp).1\/op>(l.getD k Zjp).2.1)):Zd4 op l=some (l.getD k Zjp):=by
 induction l generalizing k with
 |nil=>exact absurd hk (Nat.not_lt_zero _)
 |cons r l ih=>
  cases k with
  |zero=>
   have h2: ¬(op<r.1\/op>r.2.1):=h2
   rw[Zd4,if_neg h2];rfl
  |succ k=>
   have h0:op<r.1\/op>r.2.1:=h 0 (Nat.succ_pos _)
   rw[Zd4,if_pos h0]
   exact ih (by simpa using hk) (fun j hj=>h (j+1) (by omega)) h2
theorem Zry {op:Int}{l:List Row}(h: ∀j,j<l.length->op<(l.getD j Zjp).1\/op>(l.getD j Zjp).2.1):Zd4 op l=none:=by
 apply Zjq
 intro r hr
 obtain⟨j,hj,rfl⟩:=List.mem_iff_getElem.1 hr
 have:=h j hj
 rw[show l.getD j Zjp=l[j]from by simp[List.getD,hj]]at this
 exact this
def Zyj (c:Int):Int:=if c=108 then 126 else if c=118 then 123 else 127
def Zjr (s:List UInt8):List Int:=s.map fun c=>(c.toNat:Int)
theorem Zas (s:List UInt8):(Zjr s).length=s.length:=by simp[Zjr]
theorem Zb5 (s:List UInt8):s.map Zgg=Zi .u8 (Zjr s):=by simp[Zjr,Zi,Zgg]
theorem ZAI (s:List UInt8)(k:Nat):(Zjr s).getD k 0=((s.getD k 0).toNat:Int):=by
 simp only[Zjr,Yah,Yas]
 cases s[k]? <;> rfl
abbrev ZE9:=Bool×List Int×List Int
def ZCe (s:ZE9)(c:Int):ZE9:=if c=58 then(true,s.2.1,s.2.2)else if s.1=true then(true,s.2.1,s.2.2++[Zyj c])else(false,s.2.1++[Zyj c],s.2.2)
def ZlV (l:List Int):ZE9:=l.foldl ZCe (false,[],[])
theorem Zm4 (l:List Int)(c:Int):ZlV (l++[c])=ZCe (ZlV l) c:=by unfold ZlV;rw[List.foldl_append];rfl
theorem ZdS {l:List Int}{k:Nat}(h:k<l.length):l.take (k+1)=l.take k++[l.getD k 0]:=by
 rw[List.take_succ_eq_append_getElem h];simp[List.getD,h]
theorem Zyk (l:List Int):(ZlV l).2.1.length+(ZlV l).2.2.length<=l.length:=by
 have: ∀k,k<=l.length->(ZlV (l.take k)).2.1.length+(ZlV (l.take k)).2.2.length<=k:=by
  intro k
  induction k with
  |zero=>intro _;simp[ZlV]
  |succ k ih=>
   intro hk
   have:=ih (by omega)
   rw[ZdS hk,Zm4]
   generalize ZlV (l.take k)=z at this
   obtain⟨o,a,b⟩:=z
   simp only at this
   unfold ZCe
   split
   ·show a.length+b.length<=k+1;omega
   ·split
    ·show a.length+(b++[_]).length<=k+1
     simp only[Yal,Yag,List.length_nil];omega
    ·show(a++[_]).length+b.length<=k+1
     simp only[Yal,Yag,List.length_nil];omega
 have h:=this l.length (Nat.le_refl _)
 rw[Yau]at h;exact h
abbrev Zm5:=Int×Int×Bool×List Int×List Int
def ZuJ (r:Row):Zm5:=(r.2.2.1,r.2.2.2.1,!r.2.2.2.2.isEmpty,(ZlV (Zjr r.2.2.2.2)).2.1,(ZlV (Zjr r.2.2.2.2)).2.2)
def ZuK (op:Int):List Row:=if op>=64768 then ZeF else ZdC
theorem Zyl (op:Int):Zd4 op (ZuK op)=Zd4 op ZwE:=by
 unfold ZuK ZwE
 rw[ZuI]
 split
 ·rename_i h
  have hs:ZdC.all (fun r=>decide (r.2.1<64768))=true:=by decide +kernel
  rw[Zjq op (a:=ZdC)]
  ·rfl
  ·intro r hr
   have:=of_decide_eq_true (Yat.1 hs r hr)
   omega
 ·rename_i h
  have hv:ZeF.all (fun r=>decide (r.1>=64768))=true:=by decide +kernel
  rw[Zjq op (a:=ZeF)]
  ·cases Zd4 op ZdC<;>rfl
  ·intro r hr
   have:=of_decide_eq_true (Yat.1 hv r hr)
   omega
def ZAJ (i:Zm5):V:= .agg [.int .i64 i.1,.int .i64 i.2.1,.bool i.2.2.1,.ref 3003 0 i.2.2.2.1.length 1,.ref 3004 0 i.2.2.2.2.length 1]
def ZzW:Zm5:=(0,0,false,[],[])
def ofS (op:Int):Zm5×Bool:=match Zd4 op ZwE with
 |some r=>(ZuJ r,true)
 |none=>(ZzW,false)
def ZCf (l:List (List UInt8)):List V:=l.map .str
theorem MB.NM:type_of% @NSX/\type_of% @St.keepS.eq_1/\type_of% @TY/\type_of% @SLS/\type_of% @Zb:=⟨NSX,St.keepS.eq_1,@TY,@SLS,@Zb⟩
def uRd (bits:Int):List Int->Nat->Int->Int->Int×Int×Int
 |[],_,_,_=>(0,0,5)
 |x::l,done,n,at_=>
  if(bits-done<7/\(x%128)/2^(bits-done).toNat≠0)\/(bits-done<=7/\x>=128)then(0,0,6)
  else if x<128 then(n+x%128*2^done,at_+1,0)else uRd bits l (done+7) (n+x%128*2^done) (at_+1)
def Zbg (xs:List Int)(at_ bits:Int):Int×Int×Int:=
 if bits<1\/bits>64\/at_<0\/at_>xs.length then(0,0,1)else uRd bits (xs.drop at_.toNat) 0 0 at_
def sx (x:Int):Int:=if x%128>=64 then x%128-128 else x%128
def ZwF (m:Nat)(v:Int):Int:=if v<2^(m-1)then v else v-2^m
def sRd (bits:Int):List Int->Nat->Int->Int->Int×Int×Int
 |[],_,_,_=>(0,0,5)
 |x::l,done,n,at_=>
  if bits-done<=7/\((sx x/2^(bits-done-1).toNat≠0/\sx x/2^(bits-done-1).toNat≠ -1)\/x>=128)then(0,0,6)
  else if x<128 then(ZwF (done+7) (n+x%128*2^done),at_+1,0)else sRd bits l (done+7) (n+x%128*2^done) (at_+1)
def Zak (xs:List Int)(at_ bits:Int):Int×Int×Int:=
 if bits<1\/bits>64\/at_<0\/at_>xs.length then(0,0,1)else sRd bits (xs.drop at_.toNat) 0 0 at_
def byte (x:Int):Prop:=0<=x/\x<=255
def bytes (l:List Int):Prop:= ∀x∈l,byte x
theorem Zd5 {v low:Int}{s m:Nat}(hv0:0<=v)(hv:v<2^s)(hl0:0<=low)(hl:low<2^m):0<=v+low*2^s/\v+low*2^s<2^(s+m):=by
 have hp:(0:Int)<2^s:=Int.pow_pos (by decide)
 have h1:0<=low*2^s:=Int.mul_nonneg hl0 (by omega)
 have h2:(low+1)*2^s<=2^m*2^s:=Int.mul_le_mul_of_nonneg_right (by omega) (by omega)
 rw[Int.add_mul,Int.one_mul]at h2
 rw[Int.pow_add,Int.mul_comm (2^s)]
 omega
theorem ZzX {bits:Int}{k:Nat}{low:Int}(hkb:7*(k:Int)<bits)(h0:0<=low)(h1:low<128)(hl:bits-7*k<7->low/2^(bits-7*k).toNat=0):low<2^(min 7 (bits-7*k).toNat):=by
 by_cases h:bits-7*k<7
 ·have:=hl h
  rw[Nat.min_eq_right (by omega)]
  have hp:(0:Int)<2^(bits-7*k).toNat:=Int.pow_pos (by decide)
  have h2:=Int.lt_ediv_add_one_mul_self low hp
  rw[this]at h2
  omega
 ·rw[Nat.min_eq_left (by omega)];exact h1
theorem ZAK {bits:Int}{k:Nat}{v low:Int}(hb:bits<=64)(hkb:7*(k:Int)<bits)(hv0:0<=v)(hv:v<2^(7*k))(h0:0<=low)(h1:low<128)(hl:bits-7*k<7->low/2^(bits-7*k).toNat=0) :
 Zt .or .u64 v (IntKind.u64.wrap (low*2^(7*k)))=v+low*2^(7*k)/\0<=v+low*2^(7*k)/\v+low*2^(7*k)<2^(7*k+7):=by
 have hlt:=ZzX hkb h0 h1 hl
 have h2:=Zd5 hv0 hv h0 hlt
 have hp:(0:Int)<2^(7*k):=Int.pow_pos (by decide)
 have hn:0<=low*2^(7*k):=Int.mul_nonneg h0 (by omega)
 have h3:(2:Int)^(7*k+min 7 (bits-7*k).toNat)<=2^64:=by exact_mod_cast Nat.pow_le_pow_right (by decide) (by omega)
 have h4:(2:Int)^(7*k+min 7 (bits-7*k).toNat)<=2^(7*k+7):=by exact_mod_cast Nat.pow_le_pow_right (by decide) (by omega)
 rw[Zb0 (k:= .u64) rfl hn (by show _<(2:Int)^64;omega)]
 refine⟨ZpW (k:= .u64) (7*k) hv0 hv h0 (by show _<(2:Int)^64;omega) (.inl rfl),h2.1,by omega⟩
theorem ZHv: ∀n:Fin 256,(IntKind.i8.wrap (IntKind.u8.wrap ((n.val:Int)*2^min (Int.toNat 1) IntKind.u8.bits))).fdiv (2^min (Int.toNat 1) IntKind.i8.bits)=sx (n.val:Int):=by decide +kernel
theorem ZFa {x:Int}(h:byte x):(IntKind.i8.wrap (IntKind.u8.wrap (x*2^min (Int.toNat 1) IntKind.u8.bits))).fdiv (2^min (Int.toNat 1) IntKind.i8.bits)=sx x:=by
 obtain⟨h0,h1⟩:=h
 have:=ZHv ⟨x.toNat,by omega⟩
 simp only[Int.toNat_of_nonneg h0]at this
 exact this
theorem ZGB (y n:Int)(h:n<=8):y.fdiv (2^min n.toNat IntKind.i8.bits)=y/2^n.toNat:=by
 rw[Nat.min_eq_left (by show _<=8;omega)]
 exact Int.fdiv_eq_ediv_of_nonneg _ (Int.le_of_lt (Int.pow_pos (by decide)))
theorem Zbw {l:List Int}{k:Nat}(h:k<l.length):l.getD k 0∈l:=by
 rw[Yah,Yab h];exact List.getElem_mem h
theorem ZbQ {l:List Int}{k:Nat}(h:k<l.length):l.drop k=l.getD k 0::l.drop (k+1):=by
 rw[List.drop_eq_getElem_cons h];simp[List.getD,h]
def Zjs:List Int->Option Nat
 |[]=>none
 |c::l=>
  if c<128 then some 1
  else if 194<=c/\c<=223 then(if 1<=l.length/\128<=l.getD 0 0/\l.getD 0 0<=191 then some 2 else none)
  else if 224<=c/\c<=239 then(if 2<=l.length/\(if c=224 then 160 else 128)<=l.getD 0 0/\l.getD 0 0<=(if c=237 then 159 else 191)/\128<=l.getD 1 0/\l.getD 1 0<=191 then some 3 else none)
  else if 240<=c/\c<=244 then(if 3<=l.length/\(if c=240 then 144 else 128)<=l.getD 0 0/\l.getD 0 0<=(if c=244 then 143 else 191)/\128<=l.getD 1 0/\l.getD 1 0<=191/\128<=l.getD 2 0/\l.getD 2 0<=191 then some 4 else none)
  else none
def Zfj:Nat->List Int->Bool
 |0,_=>true
 |n+1,l=>if l=[]then true else match Zjs l with
  |none=>false
  |some k=>Zfj n (l.drop k)
def ZaV (l:List Int):Bool:=Zfj l.length l
def toS (l:List Int):List UInt8:=(Zi .u8 l).map Abs.byteOf
theorem ZCO {x:Int}{k:Nat}(h0:0<=x)(hk:k<8):x.fdiv (2^min (8*(k:Int)).toNat IntKind.u64.bits)=x/2^(8*k):=by
 have e:min (8*(k:Int)).toNat IntKind.u64.bits=8*k:=by rw[Nat.min_eq_left (by show _<=64;omega)];omega
 rw[e,ZpX _ _ h0]
theorem ZCP (x:Int):IntKind.u8.wrap x=x%256:=Zj (k:= .u8) rfl x
end Go.Proofs.YtimhmpdfioihlaaGreatDoor
namespace Go.Abs
set_option maxRecDepth 20000
open Go Go.RowKit
section
section
variable {P:Program}{f:FuncId}{args:List V}{R R':V->List (Nat×List V)->Prop}{S:Nat->Prop}{w w':World}{r r':V}{m m':List (Nat×List V)}{u:Value}
theorem Out.wk (h:Out S w w' r m u)(hw:Wk r r'):Out S w w' r' m u:=by
 obtain⟨⟨S',β',h1,h2,h3,h4⟩,hfr⟩:=h
 exact⟨⟨S',β',h1,h2,hw _ _ _ _ h3,h4⟩,hfr⟩
theorem AC.out (h:AC P f args R)(hw: ∀r m,R r m-> ∃r' m',R' r' m'/\ ∀S w w' u,Out S w w' r m u->Out S w w' r' m' u):AC P f args R':=fun S w us h1 h2 h3=>
 (h S w us h1 h2 h3).mono fun _ _ ⟨r,m,u,hR,e,o⟩=>by
  obtain⟨r',m',hR',ho⟩:=hw r m hR
  exact⟨r',m',u,hR',e,ho _ _ _ _ o⟩
theorem Wk.tup {cs' cs:List V}(h:WkL cs' cs):Wk (.tup cs') (.tup cs):=fun S w β u hv=>by
 cases hv with
 |flat h=>cases h
 |tup _ us hl hr=>
  exact .tup cs us (by rw[<- h.length];exact hl) (fun j v u hv hu=>by
    obtain⟨v',h1,h2⟩:=h.at hv
    exact h2 S w β u (hr j v' u h1 hu))
end
end
section
section
variable {P:Program}{st:St}{Q:Exit->St->Prop}{ops:Array Oper}{l l1 l2 rest tail:List Oper}{o:Oper}
theorem DWL.nil (h:AWL P ops tail Q st):DWL P ops tail Q [] st:=h
theorem DWL.step {d:Nat}{v:V}(hg:o.guard=none)(hd:o.dst=some d)(hdn:Nat.ble (d+1) st.n=true)(h:Zdi P st o v)(k:DWL P ops tail Q rest (st.put d v)):DWL P ops tail Q (o::rest) st:=
 ⟨d,v,hd,Yaa hdn,.inl ⟨hg,h⟩,k⟩
theorem DWL.op {d:Nat}{v:V}{c:Prop}(hg:o.guard=none)(hd:o.dst=some d)(hdn:Nat.ble (d+1) st.n=true)(h:vop P st o.op=some (c,v))(hc:c)(k:DWL P ops tail Q rest (st.put d v)):DWL P ops tail Q (o::rest) st:=
 DWL.step hg hd hdn (Zdi.op h hc) k
end
end
section
section
variable {P:Program}{C:Ctx}{st st':St}{o:Oper}{ops:Array Oper}{rest:List Oper}{Q:Exit->St->Prop}
theorem AWL.cFM {f:FuncId}{x:Operand}{args:Array Operand}{argTypes:Array TypeId}{d:Nat}(ρ:List (Nat×Nat)){keep:List Nat}{mem:Mem}{cargs:List V}{R:V->Mem->Prop}(hg:o.guard=none)(ho:o.op= .call { callee:= .value x,args,argTypes })(hx:st.ev x= .fn f [])(hd:o.dst=some d)
 (hf:Za P f=true) (hdn:Nat.ble (d+1) st.n=true) (hl:Zhv st ρ ρ=some mem) (hck:Zn4 st ρ keep=true) (hargs:args.toList.map (fun x=>(st.ev x).rk (Zh1 ρ) 4)=cargs) (hAM:AM P f cargs mem keep R)
 (k: ∀r m,R r m->Zrm ρ d m=true/\AWL P ops rest Q (st.back ρ keep d m r)):AWL P ops (o::rest) Q st:=fun C a w ⟨S,β,hs⟩=>by
 have hu:a.eval x= .func (.func f) #[] #[]:=by
  have h:=hx▸Zag hs x
  generalize a.eval x=X at h
  cases h with
  |flat h=>cases h with
   |fn=>rfl
  |fn _ _ us hl hr=>
   have:us= #[]:=by simpa using hl.symm
   subst this;rfl
  |mfn _ _ us hl hr=>
   have:us= #[]:=by simpa using hl.symm
   subst this;rfl
 refine wpList_plain hg fun K hK=> ?_
 unfold Oper.wp
 rw[ZmH ho hu hf]
 subst hargs
 obtain⟨hm1,hm2⟩:=Zdj hl
 have hck':=hck
 simp only[Zn4,Yao,Yaz,Yat]at hck'
 obtain⟨⟨hn1,hn2⟩,hkp⟩:=hck'
 let βc:Nat->Option BI:=fun k=>(lk ρ k).bind β
 have hσ: ∀K j,Zh1 ρ K=some j->β K=none\/βc j=β K:=fun K j hj=> .inr (by simp only[βc,Zar hn1 (Zer hj)];rfl)
 have hc:=hAM S w βc (args.toList.map a.eval) hs.sok (by simp) (fun j v u hv hu=>by
  rw[Yas,Yaj]at hv hu
  obtain⟨x,hx,rfl⟩:=hv
  obtain⟨y,hy,rfl⟩:=hu
  rw[hx]at hy;cases hy
  exact VR.rk hσ 4 (Zag hs x)) (fun k o hk=>by
  obtain⟨K,o',e1,e2,rfl⟩:=hm2 k o hk
  exact OR.rk hσ (hs.objs K o' e2) (by simp only[βc,Zar hn1 e1];rfl)) (fun k o bi hk hb=>by
  obtain⟨K,o',e1,e2,rfl⟩:=hm2 k o hk
  simp only[βc,Zar hn1 e1]at hb
  exact(hs.own K bi (by rw[e2];rfl) hb).1) (fun k k' o o' bi bi' hk hk' hb hb' e=>by
  obtain⟨K,o1,e1,e2,rfl⟩:=hm2 k o hk
  obtain⟨K',o1',e1',e2',rfl⟩:=hm2 k' o' hk'
  simp only[βc,Zar hn1 e1]at hb
  simp only[βc,Zar hn1 e1']at hb'
  have hKK:=hs.inj K K' bi bi' (by rw[e2];rfl) (by rw[e2'];rfl) hb hb' e
  subst hKK
  exact Zgk hn2 e1 e1') (by rw[hm1];exact hn1) (fun k hk=>by
  have:=hkp k hk
  split at this
  ·rename_i o ho
   rw[Option.bind_eq_some_iff]at ho
   obtain⟨K,hK1,hK2⟩:=ho
   rcases hs.objs K o hK2 with⟨q1,q2,_⟩|⟨bi,_,_,_,hbi,_⟩
   ·rw[q1,q2]at this;cases this
   ·exact⟨bi,by simp only[βc,hK1];exact hbi⟩
  ·cases this)
 have e:(args.toList.map a.eval).toArray= #[]++args.map a.eval++ #[]:=by rw[Array.empty_append,Array.append_empty,<- Array.toList_map]
 rw[e]at hc
 refine Calls.mono hc ?_
 rintro e' w' ⟨r,m,u,hR,rfl,hout⟩
 obtain⟨hcb,hk⟩:=k r m hR
 have:=hs.calledM (d:=d) (Yaa hdn) hl hck hcb (fun _=>rfl) hout
 show K (a.put o.dst u) w'
 rw[hd]
 exact hK _ _ (hk C _ w' this)
end
end
end Go.Abs
namespace Go.Proofs.YtimhmpdfioihlaaGreatDoor
set_option maxRecDepth 20000
open Go Go.Abs
def ZhK (n:Nat):List Int:=if n<128 then[(n:Int)]else((n:Int)%128+128)::ZhK (n/128)
termination_by n
def ZdD (n:Int):List Int:=if -64<=n/\n<=63 then[n%128]else(n%128+128)::ZdD (n/128)
termination_by n.natAbs
def Zfk:List Int->List Int
 |[]=>[]
 |x::l=>ZhK x.toNat++Zfk l
def Zfl:List Int->List Int
 |[]=>[]
 |x::l=>ZdD x++Zfl l
theorem Zd6 {n:Nat}(h:n<128):ZhK n=[(n:Int)]:=by rw[ZhK,if_pos h]
theorem Ziu {n:Nat}(h: ¬n<128):ZhK n=((n:Int)%128+128)::ZhK (n/128):=by rw[ZhK,if_neg h]
theorem Zd7 {n:Int}(h: -64<=n/\n<=63):ZdD n=[n%128]:=by rw[ZdD,if_pos h]
theorem Ziv {n:Int}(h: ¬(-64<=n/\n<=63)):ZdD n=(n%128+128)::ZdD (n/128):=by rw[ZdD,if_neg h]
theorem Zm6 (a b:List Int):Zfk (a++b)=Zfk a++Zfk b:=by
 induction a with
 |nil=>rfl
 |cons x a ih=>simp[Zfk,ih]
theorem Zm7 (a b:List Int):Zfl (a++b)=Zfl a++Zfl b:=by
 induction a with
 |nil=>rfl
 |cons x a ih=>simp[Zfl,ih]
theorem Ziw (j n:Nat)(h:n<2^(7*(j+1))):(ZhK n).length<=j+1:=by
 induction j generalizing n with
 |zero=>rw[Zd6 (by simpa using h)];simp
 |succ j ih=>
  by_cases hn:n<128
  ·rw[Zd6 hn];simp
  ·rw[Ziu hn,Yag]
   have:=ih (n/128) (by
     rw[show 7*(j+1+1)=7*(j+1)+7 from by omega,Nat.pow_add]at h
     exact Nat.div_lt_of_lt_mul (by rw[Nat.mul_comm];exact h))
   omega
theorem Zc7 (j:Nat)(n:Int)(h: -(2^(7*j)*64)<=n/\n<2^(7*j)*64):(ZdD n).length<=j+1:=by
 induction j generalizing n with
 |zero=>rw[Zd7 (by simp at h;omega)];simp
 |succ j ih=>
  by_cases hn: -64<=n/\n<=63
  ·rw[Zd7 hn];simp
  ·rw[Ziv hn,Yag]
   have:=ih (n/128) (by
     rw[show 7*(j+1)=7*j+7 from by omega,Int.pow_add]at h
     generalize (2:Int)^(7*j)=P at h ⊢
     omega)
   omega
theorem ZuL (l:List Int)(h: ∀x∈l,0<=x/\x<2^64):(Zfk l).length<=10*l.length:=by
 induction l with
 |nil=>exact Nat.le_refl _
 |cons x l ih=>
  have h1:=ih (fun y hy=>h y (Yaq _ hy))
  have h2:=h x (List.mem_cons_self ..)
  have h3:=Ziw 9 x.toNat (by simp;omega)
  simp only[Zfk,Yal,Yag];omega
theorem ZuM (l:List Int)(h: ∀x∈l, -2^63<=x/\x<2^63):(Zfl l).length<=10*l.length:=by
 induction l with
 |nil=>exact Nat.le_refl _
 |cons x l ih=>
  have h1:=ih (fun y hy=>h y (Yaq _ hy))
  have h2:=h x (List.mem_cons_self ..)
  have h3:=Zc7 9 x (by simp only[Nat.reduceMul,Int.reducePow,Int.reduceMul];omega)
  simp only[Zfl,Yal,Yag];omega
theorem Zko (n:Nat):bytes (ZhK n):=by
 induction n using Nat.strongRecOn with
 |ind n ih=>
  by_cases hn:n<128
  ·rw[Zd6 hn];intro x hx;rw[List.mem_singleton]at hx;subst hx;exact⟨by omega,by omega⟩
  ·rw[Ziu hn];intro x hx
   rcases Yav.1 hx with rfl|hx
   ·exact⟨by omega,by omega⟩
   ·exact ih _ (by omega) x hx
theorem Zrz (n:Int):bytes (ZdD n):=by
 induction h:n.natAbs using Nat.strongRecOn generalizing n with
 |ind k ih=>
  by_cases hn: -64<=n/\n<=63
  ·rw[Zd7 hn];intro x hx;rw[List.mem_singleton]at hx;subst hx;exact⟨by omega,by omega⟩
  ·rw[Ziv hn];intro x hx
   rcases Yav.1 hx with rfl|hx
   ·exact⟨by omega,by omega⟩
   ·exact ih (n/128).natAbs (by omega) _ rfl x hx
theorem Zba {a b:List Int}(ha:bytes a)(hb:bytes b):bytes (a++b):=by
 intro x hx;rcases List.mem_append.1 hx with h|h
 ·exact ha x h
 ·exact hb x h
theorem Zym (x:Int):Zt .and .i64 x 127=x%128:=by
 simp only[Zt]
 rw[BitVec.toNat_and,show(BitVec.ofInt IntKind.i64.bits 127).toNat=2^7-1 from by decide,Nat.and_two_pow_sub_one_eq_mod,BitVec.toNat_ofInt]
 show IntKind.i64.wrap (((x%(2^64:Nat)).toNat%2^7:Nat):Int)=_
 rw[Go.Abs.wrap_small (by omega) (by show _<(2:Int)^63;omega)]
 omega
theorem ZGC {k:IntKind}(x:Int)(h:7<=k.bits):x.fdiv (2^min (Int.toNat 7) k.bits)=x/128:=by
 rw[show(Int.toNat 7)=7 from rfl,Nat.min_eq_left h]
 exact Int.fdiv_eq_ediv_of_nonneg _ (by decide)
theorem ZuN (x:Int):Zt .or .u8 (IntKind.u8.wrap x) 128=x%128+128:=by
 rw[Zj (k:= .u8) rfl,ZCs (by show 0<=x%256;omega) (by show x%256<=255;omega)]
 show x%256%128+128=_
 omega
end Go.Proofs.YtimhmpdfioihlaaGreatDoor
namespace Go.Proofs.YtimhmpdfioihlaaGreatDoor
set_option maxRecDepth 20000
open Go Go.Abs Nat
attribute [local irreducible] AW AWL AC FW CW CWr IntKind.wrap
section
def S11 (xs:List Int)(bits at_ done n:Int):St:=
 { n:=73,slots:=[(0,.view xs.length 1 (Zi .u8 xs)),(1,.int .i64 at_),(2,.int .i64 bits),(9,.int .u64 n),(10,.int .i64 done)],mem:=[] }
theorem MU.NM:type_of% @MB.NM/\type_of% @S11.eq_1:=
 ⟨MB.NM,@S11.eq_1⟩
open MU
open Zuq Zur in
set_option maxRecDepth 4000 in
theorem ZGD (xs:List Int)(hb:bytes xs)(hlen:xs.length<=1000000000000000)(at_ bits:Int) :
 AC Tryz.prog 75 [.view xs.length 1 (Zi .u8 xs),.int .i64 at_,.int .i64 bits] (fun r m=>r= .tup [.int .u64 (Zbg xs at_ bits).1,.int .i64 (Zbg xs at_ bits).2.1,.int .i64 (Zbg xs at_ bits).2.2]/\m=[]):=by
 refine AC.enter Tryz.func75 rfl (Yaa rfl) ?_
 simp only[Tryz.f75]
 have nx:=trivial
 refine' ZcJ
 ·refine⟨?_,trivial⟩;rw[Zbg,if_pos (by omega)]
 ·obtain⟨a0,rfl⟩: ∃a0:Nat,at_=a0:=⟨at_.toNat,by omega⟩
  have hsp:Zbg xs a0 bits=uRd bits (xs.drop a0) 0 0 a0:=by rw[Zbg,if_neg (by omega),Yap]
  refine AW.loop [0,1,2,9,10] [] (fun n st=> ∃(k a:Nat) (v:Int),st=S11 xs bits a (7*k) v/\a<=xs.length/\n=xs.length-a/\7*(k:Int)<bits/\0<=v/\v<2^(7*k)/\Zbg xs a0 bits=uRd bits (xs.drop a) (7*k) v a) ?_ ?_
  ·exact⟨_,0,a0,0,rfl,by omega,rfl,by omega,by decide,by decide,hsp⟩
  ·rintro n st ⟨k,a,v,rfl,ha,rfl,hkb,hv0,hv1,hs⟩
   by_cases hal:a<xs.length
   ·have hx:=hb _ (Zbw hal)
    have hA:=Ztk hx.1 hx.2
    have hB:IntKind.u64.wrap (xs.getD a 0%128)=xs.getD a 0%128:=Zb0 rfl (by omega) (by show _<(18446744073709551616:Int);omega)
    rw[ZbQ hal]at hs
    simp only[uRd]at hs
    have hF:(xs.getD a 0%128).fdiv (2^min (bits-7*(k:Int)).toNat IntKind.u64.bits)=(xs.getD a 0%128)/2^(bits-7*(k:Int)).toNat:=by
     rw[show min (bits-7*(k:Int)).toNat IntKind.u64.bits=(bits-7*(k:Int)).toNat from Nat.min_eq_left (by show _<=64;omega),ZpX _ _ (by omega)]
    have hM:min (7*(k:Int)).toNat IntKind.u64.bits=7*k:=by
     rw[Nat.min_eq_left (by show _<=64;omega)];omega
    have hor:=fun h=>ZAK (k:=k) (low:=xs.getD a 0%128) (by omega) hkb hv0 hv1 (by omega) (by omega) h
    have e7:(2:Int)^(7*k+7)=2^(7*(k+1)):=by rw[Nat.mul_succ]
    have nx:=aI @hA (aI @hB (aI @hF (aI @hM (aI @Zc trivial))))
    refine' ZcJ
    all_goals try simp(disch:=omega) only[NM,Nat.reduceBEq,reduceAdd,reduceMul,Int.reduceToNat,reduceSub,List.set_cons_zero,List.set_cons_succ,hA,hB,hF,hM,Zc]
    ·rw[hs,if_pos (.inr ⟨by omega,by assumption⟩)];exact⟨rfl,trivial⟩
    ·have ho:=hor (fun _=>by assumption)
     rw[hs,if_neg (by rintro(⟨_,h⟩|⟨_,h⟩)<;>first|(exact h (by assumption))|omega),if_pos (by assumption),ho.1];exact⟨rfl,trivial⟩
    ·rw[hs,if_pos (.inl ⟨by omega,by assumption⟩)];exact⟨rfl,trivial⟩
    ·rw[hs,if_pos (.inr ⟨by omega,by assumption⟩)];exact⟨rfl,trivial⟩
    ·have ho:=hor (fun _=>by omega)
     rw[hs,if_neg (by rintro(⟨_,h⟩|⟨_,h⟩)<;>omega),if_pos (by assumption),ho.1];exact⟨rfl,trivial⟩
    ·have ho:=hor (fun _=>by omega)
     rw[hs,if_neg (by rintro(⟨_,h⟩|⟨_,h⟩)<;>omega),if_pos (by assumption),ho.1];exact⟨rfl,trivial⟩
    ·have ho:=hor (fun _=>by omega)
     rw[if_neg (by rintro(⟨_,h⟩|⟨_,h⟩)<;>omega),if_neg (by omega)]at hs
     refine⟨xs.length-(a+1),by omega,k+1,a+1,v+xs.getD a 0%128*2^(7*k),?_,by omega,rfl,by omega,ho.2.1,by rw[<- e7];exact ho.2.2,hs⟩
     rw[ho.1,show(7*((k+1:Nat):Int))=7*k+7 from by omega];rfl
   ·have nx:=trivial
    refine' ZcJ
    all_goals try simp(disch:=omega) only[NM,Nat.reduceBEq,reduceAdd,reduceMul,Int.reduceToNat,reduceSub,List.set_cons_zero,List.set_cons_succ]
    ·rw[Ya7 (by omega)]at hs
     rw[hs];exact⟨rfl,trivial⟩
    all_goals(exfalso;omega)
 all_goals(refine⟨?_,trivial⟩;rw[Zbg,if_pos (by omega)])
end
end Go.Proofs.YtimhmpdfioihlaaGreatDoor
namespace Go.Proofs.YtimhmpdfioihlaaGreatDoor
set_option maxRecDepth 20000
open Go Go.Abs Nat
section
theorem Zjt {x:Int}(h0:0<=x)(h1:x<18446744073709551616):IntKind.i64.wrap x=if x<9223372036854775808 then x else x-18446744073709551616:=by
 have e:x%18446744073709551616=x:=Int.emod_eq_of_lt h0 h1
 show(if(true&&decide (x%18446744073709551616>=9223372036854775808))=true then x%18446744073709551616-18446744073709551616 else x%18446744073709551616)=_
 rw[e]
 by_cases h:x<9223372036854775808
 ·rw[if_neg (by simp;omega),if_pos h]
 ·rw[if_pos (by simp;omega),if_neg h]
theorem ZGE {k:Nat}(hk:k<=8){v low:Int}(hv0:0<=v)(hv:v<2^(7*k))(h0:0<=low)(h1:low<128) :
 Zt .or .i64 v (IntKind.i64.wrap (low*2^(7*k)))=v+low*2^(7*k)/\0<=v+low*2^(7*k)/\v+low*2^(7*k)<2^(7*k+7):=by
 have h2:=Zd5 hv0 hv h0 (m:=7) h1
 have hp:(0:Int)<2^(7*k):=Int.pow_pos (by decide)
 have hn:0<=low*2^(7*k):=Int.mul_nonneg h0 (by omega)
 have h3:(2:Int)^(7*k+7)<=2^63:=by exact_mod_cast Nat.pow_le_pow_right (by decide) (by omega)
 rw[Go.Abs.wrap_small (k:= .i64) hn (by show _<(2:Int)^63;omega)]
 exact⟨ZpW (k:= .i64) (7*k) hv0 hv h0 (by show _<(2:Int)^64;omega) (.inr (by show _<(2:Int)^63;omega)),h2⟩
theorem Zyn {k:Nat}(hk:k<=8){v low:Int}(hv0:0<=v)(hv:v<2^(7*k))(h0:0<=low)(h1:low<128) :
 (IntKind.i64.wrap (Zt .or .i64 v (IntKind.i64.wrap (low*2^(7*k)))*2^min (if 0<57-7*(k:Int)then 57-7*(k:Int)else 0).toNat IntKind.i64.bits)).fdiv (2^min (if 0<57-7*(k:Int)then 57-7*(k:Int)else 0).toNat IntKind.i64.bits)=ZwF (7*k+7) (v+low*2^(7*k)):=by
 obtain⟨e,g0,g1⟩:=ZGE hk hv0 hv h0 h1
 rw[e]
 generalize v+low*2^(7*k)=N at g0 g1
 have hs:min (if 0<57-7*(k:Int)then 57-7*(k:Int)else 0).toNat IntKind.i64.bits=57-7*k:=by
  rw[show IntKind.i64.bits=64 from rfl];split<;>omega
 rw[hs]
 clear e hs hv hv0 h0 h1
 have:k=0\/k=1\/k=2\/k=3\/k=4\/k=5\/k=6\/k=7\/k=8:=by omega
 rcases this with rfl|rfl|rfl|rfl|rfl|rfl|rfl|rfl|rfl <;>
  (simp only[Nat.reduceMul,Nat.reduceAdd,Nat.reduceSub,Int.reducePow]at g1 ⊢
   rw[Zjt (by omega) (by omega),Int.fdiv_eq_ediv_of_nonneg _ (by decide)]
   simp only[ZwF,Nat.reduceSub,Int.reducePow]
   split<;>split<;>omega)
theorem ZCQ: ∀v:Int,0<=v->v<2^63->Zt .or .i64 v (-9223372036854775808)=v-9223372036854775808:=by
 intro v h0 h1
 simp only[Zt]
 rw[BitVec.toNat_or,ZaN h0 (by show _<(2:Int)^64;omega),show(BitVec.ofInt IntKind.i64.bits (-9223372036854775808)).toNat=1*2^63 from by decide,Nat.or_comm]
 have e:=Nat.shiftLeft_add_eq_or_of_lt (b:=v.toNat) (i:=63) (by omega) 1
 rw[Nat.shiftLeft_eq]at e
 rw[<- e,Zjt (by omega) (by omega),if_neg (by omega)]
 omega
theorem Zyo {v low:Int}(hv0:0<=v)(hv:v<2^(7*9))(h:low=0\/low=127) :
 (IntKind.i64.wrap (Zt .or .i64 v (IntKind.i64.wrap (low*2^(7*9)))*2^min (if 0<57-7*((9:Nat):Int)then 57-7*((9:Nat):Int)else 0).toNat IntKind.i64.bits)).fdiv (2^min (if 0<57-7*((9:Nat):Int)then 57-7*((9:Nat):Int)else 0).toNat IntKind.i64.bits)=ZwF (7*9+7) (v+low*2^(7*9)):=by
 rw[if_neg (by decide),show min (Int.toNat 0) IntKind.i64.bits=0 from rfl]
 simp only[Nat.reduceMul,Nat.reduceAdd,Int.reducePow,Int.mul_one,Int.fdiv_one]at hv ⊢
 rcases h with rfl|rfl
 ·rw[Int.zero_mul,show IntKind.i64.wrap 0=0 from rfl,show Zt .or .i64 v 0=v from ?_,Zjt (by omega) (by omega),if_pos (by omega),ZwF,if_pos (by simp only[Nat.reduceSub,Int.reducePow];omega)]
  ·omega
  ·have:=ZpW (k:= .i64) (a:=v) (b:=0) 63 hv0 (by simp only[Int.reducePow];omega) (by decide) (by show _<(2:Int)^64;simp only[Int.reducePow];omega) (.inr (by show _<(2:Int)^63;simp only[Int.reducePow];omega))
   simpa using this
 ·rw[show IntKind.i64.wrap (127*9223372036854775808)= -9223372036854775808 from by decide,ZCQ v hv0 (by simp only[Int.reducePow];omega),Zc _ (by omega) (by omega),ZwF,if_neg (by simp only[Nat.reduceSub,Int.reducePow];omega)]
  simp only[Int.reducePow];omega
theorem ZCR {bits:Int}{k:Nat}{x:Int}(hb:bits<=64)(hk:7*(k:Int)<bits)(h9: ¬k<=8)(h:bits-7*k<=7->sx x/2^(bits-7*k-1).toNat=0\/sx x/2^(bits-7*k-1).toNat= -1):k=9/\(x%128=0\/x%128=127):=by
 obtain rfl:k=9:=by omega
 obtain rfl:bits=64:=by omega
 have:=h (by decide)
 rw[show((64:Int)-7*((9:Nat):Int)-1).toNat=0 from rfl,Int.pow_zero,Int.ediv_one]at this
 refine⟨rfl,?_⟩
 revert this
 unfold sx
 split<;>omega
theorem ZoF {bits:Int}{k:Nat}{x v:Int}(hb:bits<=64)(hk:7*(k:Int)<bits)(hv0:0<=v)(hv:v<2^(7*k))(h:bits-7*k<=7->sx x/2^(bits-7*k-1).toNat=0\/sx x/2^(bits-7*k-1).toNat= -1) :
 (IntKind.i64.wrap (Zt .or .i64 v (IntKind.i64.wrap (x%128*2^(7*k)))*2^min (if 0<57-7*(k:Int)then 57-7*(k:Int)else 0).toNat IntKind.i64.bits)).fdiv (2^min (if 0<57-7*(k:Int)then 57-7*(k:Int)else 0).toNat IntKind.i64.bits)=ZwF (7*k+7) (v+x%128*2^(7*k)):=by
 by_cases h9:k<=8
 ·exact Zyn h9 hv0 hv (by omega) (by omega)
 ·obtain⟨rfl,hl⟩:=ZCR hb hk h9 h
  exact Zyo hv0 hv hl
attribute [local irreducible] AW AWL AC FW CW CWr IntKind.wrap
def S13 (xs:List Int)(bits at_ done n:Int):St:=
 { n:=83,slots:=[(0,.view xs.length 1 (Zi .u8 xs)),(1,.int .i64 at_),(2,.int .i64 bits),(9,.int .i64 n),(10,.int .i64 done)],mem:=[] }
theorem MS.NM:type_of% @MB.NM/\type_of% @S13.eq_1:=
 ⟨MB.NM,@S13.eq_1⟩
open MS
open Zuq Zur in
set_option maxRecDepth 4000 in
theorem ZHw (xs:List Int)(hb:bytes xs)(hlen:xs.length<=1000000000000000)(at_ bits:Int) :
 AC Tryz.prog 175 [.view xs.length 1 (Zi .u8 xs),.int .i64 at_,.int .i64 bits] (fun r m=>r= .tup [.int .i64 (Zak xs at_ bits).1,.int .i64 (Zak xs at_ bits).2.1,.int .i64 (Zak xs at_ bits).2.2]/\m=[]):=by
 refine AC.enter Tryz.func175 rfl (Yaa rfl) ?_
 simp only[Tryz.f175]
 have nx:=trivial
 refine' ZcJ
 ·refine⟨?_,trivial⟩;rw[Zak,if_pos (by omega)]
 ·obtain⟨a0,rfl⟩: ∃a0:Nat,at_=a0:=⟨at_.toNat,by omega⟩
  have hsp:Zak xs a0 bits=sRd bits (xs.drop a0) 0 0 a0:=by rw[Zak,if_neg (by omega),Yap]
  refine AW.loop [0,1,2,9,10] [] (fun n st=> ∃(k a:Nat) (v:Int),st=S13 xs bits a (7*k) v/\a<=xs.length/\n=xs.length-a/\7*(k:Int)<bits/\0<=v/\v<2^(7*k)/\Zak xs a0 bits=sRd bits (xs.drop a) (7*k) v a) ?_ ?_
  ·exact⟨_,0,a0,0,rfl,by omega,rfl,by omega,by decide,by decide,hsp⟩
  ·rintro n st ⟨k,a,v,rfl,ha,rfl,hkb,hv0,hv1,hs⟩
   by_cases hal:a<xs.length
   ·have hx:=hb _ (Zbw hal)
    have hA:=Ztk hx.1 hx.2
    have hB:IntKind.i64.wrap (xs.getD a 0%128)=xs.getD a 0%128:=Zc _ (by omega) (by omega)
    rw[ZbQ hal]at hs
    simp only[sRd]at hs
    have hM:min (7*(k:Int)).toNat IntKind.i64.bits=7*k:=by
     rw[Nat.min_eq_left (by show _<=64;omega)];omega
    have e7:(2:Int)^(7*k+7)=2^(7*(k+1)):=by rw[Nat.mul_succ]
    have hX:=ZFa hx
    have hX2:=hX
    simp only[Int.reduceToNat]at hX2
    have nx:=aI @hA (aI @hB (aI @hM (aI @hX (aI @hX2 (aI @ZGB (aI @Zc trivial))))))
    refine' ZcJ
    all_goals try simp(disch:=omega) only[NM,Nat.reduceBEq,reduceAdd,reduceMul,Int.reduceToNat,reduceSub,List.set_cons_zero,List.set_cons_succ,hA,hB,hM,hX,hX2,ZGB,Zc]
    all_goals first
     |((rw[hs,if_pos ⟨by assumption,.inr (by omega)⟩];exact⟨rfl,trivial⟩))
     |((have hg:=ZoF (x:=xs.getD a 0) (by omega) hkb hv0 hv1 (fun _=> .inr (by assumption)));(rw[if_neg (by rintro⟨_,⟨_,h⟩|h⟩<;>first|exact h (by assumption)|omega),if_pos (by assumption)]at hs;rw[hs,hg];exact⟨rfl,trivial⟩))
     |((rw[hs,if_pos ⟨by assumption,.inl ⟨by assumption,by assumption⟩⟩];exact⟨rfl,trivial⟩))
     |((rw[hs,if_pos ⟨by assumption,.inr (by omega)⟩];exact⟨rfl,trivial⟩))
     |((have hg:=ZoF (x:=xs.getD a 0) (by omega) hkb hv0 hv1 (fun _=> .inl (by assumption)));(rw[if_neg (by rintro⟨_,⟨h,_⟩|h⟩<;>first|exact h (by assumption)|omega),if_pos (by assumption)]at hs;rw[hs,hg];exact⟨rfl,trivial⟩))
     |((have hg:=ZoF (x:=xs.getD a 0) (by omega) hkb hv0 hv1 (fun _=>by omega));(rw[if_neg (by rintro⟨_,_⟩;omega),if_pos (by assumption)]at hs;rw[hs,hg];exact⟨rfl,trivial⟩))
     |((have ho:=ZGE (k:=k) (low:=xs.getD a 0%128) (by omega) hv0 hv1 (by omega) (by omega));(rw[if_neg (by rintro⟨_,_⟩;omega),if_neg (by omega)]at hs);(refine⟨xs.length-(a+1),by omega,k+1,a+1,v+xs.getD a 0%128*2^(7*k),?_,by omega,rfl,by omega,ho.2.1,by rw[<- e7];exact ho.2.2,hs⟩);(rw[ho.1,show(7*((k+1:Nat):Int))=7*k+7 from by omega];rfl))
   ·have nx:=trivial
    refine' ZcJ
    all_goals try simp(disch:=omega) only[NM,Nat.reduceBEq,reduceAdd,reduceMul,Int.reduceToNat,reduceSub,List.set_cons_zero,List.set_cons_succ]
    ·rw[Ya7 (by omega)]at hs
     rw[hs];exact⟨rfl,trivial⟩
    all_goals(exfalso;omega)
 all_goals(refine⟨?_,trivial⟩;rw[Zak,if_pos (by omega)])
end
end Go.Proofs.YtimhmpdfioihlaaGreatDoor
namespace Go.Proofs.YtimhmpdfioihlaaGreatDoor
set_option maxRecDepth 20000
open Go Go.Abs
theorem ZaI {l:List Int}(h:bytes l){k:Nat}(hk:k<l.length):byte (l.getD k 0):=h _ (Zbw hk)
theorem ZbF {l:List Int}(h:bytes l)(n:Nat):bytes (l.take n):=fun x hx=>h x (List.mem_of_mem_take hx)
theorem Zd8 {l:List Int}(h:bytes l)(n:Nat):bytes (l.drop n):=fun x hx=>h x (List.mem_of_mem_drop hx)
def le:List Int->Int
 |[]=>0
 |x::l=>x+256*le l
def toB:Nat->Int->List Int
 |0,_=>[]
 |n+1,x=>x%256::toB n (x/256)
theorem Zch (n:Nat)(x:Int):(toB n x).length=n:=by
 induction n generalizing x with
 |zero=>rfl
 |succ n ih=>simp[toB,ih]
theorem Zm8 (n:Nat)(x:Int):bytes (toB n x):=by
 induction n generalizing x with
 |zero=>intro y hy;cases hy
 |succ n ih=>
  intro y hy
  rcases Yav.1 hy with rfl|hy
  ·exact⟨by omega,by omega⟩
  ·exact ih _ y hy
theorem ZCg (n:Nat):(2:Int)^(8*(n+1))=256*2^(8*n):=by
 rw[show 8*(n+1)=8*n+8 from by omega,Int.pow_add,Int.mul_comm];rfl
theorem ZuO (a b:List Int):le (a++b)=le a+2^(8*a.length)*le b:=by
 induction a with
 |nil=>simp[le]
 |cons x a ih=>
  rw[List.cons_append,le,ih,Yag,ZCg,le,Int.mul_add,Int.mul_assoc];omega
theorem ZdE {l:List Int}(h:bytes l):0<=le l/\le l<2^(8*l.length):=by
 induction l with
 |nil=>exact⟨Int.le_refl _,by decide⟩
 |cons x l ih=>
  have h1:=ih (fun y hy=>h y (Yaq _ hy))
  have h2:=h x (List.mem_cons_self ..)
  rw[Yag,ZCg,le]
  unfold byte at h2
  omega
theorem ZzY (n:Nat)(x:Int):le (toB n x)=x%2^(8*n):=by
 induction n generalizing x with
 |zero=>simp[toB,le,Int.emod_one]
 |succ n ih=>
  rw[toB,le,ih,ZCg]
  have hp:(0:Int)<2^(8*n):=Int.pow_pos (by decide)
  generalize (2:Int)^(8*n)=P at *
  have h1:=Int.emod_def x (256*P)
  have h2:=Int.emod_def (x/256) P
  have h3:x/(256*P)=x/256/P:=(Int.ediv_ediv_of_nonneg (by decide)).symm
  rw[h1,h2,h3,Int.mul_sub,Int.mul_assoc];omega
theorem Zlh {l:List Int}{k:Nat}(h:k<l.length):le (l.take (k+1))=le (l.take k)+l.getD k 0*2^(8*k):=by
 rw[ZdS h,ZuO,Yar,Nat.min_eq_left (by omega)]
 simp[le,Int.mul_comm]
def ZuP (w:Int):Nat:=if w=8 then 16 else if w=16 then 8 else if w=32 then 4 else if w=64 then 2 else 0
def wb (w:Int):Nat:=(w/8).toNat
def get (v:List Int)(w i:Int):Int:=if 0<=i/\i<ZuP w then le ((v.drop (i.toNat*wb w)).take (wb w))else 0
def sgn (w x:Int):Int:=if x%2^w.toNat<2^(w.toNat-1)then x%2^w.toNat else x%2^w.toNat-2^w.toNat
def signed (v:List Int)(w i:Int):Int:=if ZuP w=0 then 0 else sgn w (get v w i)
def Zh3 (l:List Int)(o:Nat)(m:List Int):List Int:=l.take o++m++l.drop (o+m.length)
def set (v:List Int)(w i x:Int):List Int:=if 0<=i/\i<ZuP w then Zh3 v (i.toNat*wb w) (toB (wb w) x)else v
def Zju:List Int:=[0,0,0,0,0,0,0,0,0,0,0,0,0,0,0,0]
def ZGF (w:Int):List Int->Nat->List Int->List Int
 |v,_,[]=>v
 |v,i,x::xs=>ZGF w (set v w i x) (i+1) xs
def of (w:Int)(xs:List Int):List Int:=ZGF w Zju 0 (xs.take (ZuP w))
def all (v:List Int)(w:Int):List Int:=(List.range (ZuP w)).map fun i=>get v w (i:Nat)
def lo (v:List Int):Int:=le (v.take 8)
def hi (v:List Int):Int:=le (v.drop 8)
def join (l h:Int):List Int:=toB 8 l++toB 8 h
def need (t:Int):Nat:=if t=127\/t=126 then 1 else if t=123 then 2 else 0
theorem Zqq (n:Nat)(x:Int):toB (n+1) x=toB n x++[x/2^(8*n)%256]:=by
 induction n generalizing x with
 |zero=>simp[toB]
 |succ n ih=>
  rw[toB,ih,toB,List.cons_append,ZCg,Int.ediv_ediv_of_nonneg (by decide)]
theorem Zkp {l:List Int}{o:Nat}{m:List Int}(h:o+m.length<=l.length):(Zh3 l o m).length=l.length:=by
 simp only[Zh3,Yal,Yar,Yaw];omega
theorem ZaB {a b:List Int}(ha:bytes a)(hb:bytes b):bytes (a++b):=by
 intro x hx;rcases List.mem_append.1 hx with h|h
 ·exact ha x h
 ·exact hb x h
theorem Zkq {k:IntKind}{l:List Int}(h:l.length=16):List.drop 16 (Zi k l)=[]:=Ya7 (by rw[Zb];omega)
theorem dz:List.drop 16 (Zi .u8 Zju)=[]:=rfl
theorem Zdn {l:List Int}(h:l.length=16):List.take 16 l=l:=Yad (by omega)
end Go.Proofs.YtimhmpdfioihlaaGreatDoor
