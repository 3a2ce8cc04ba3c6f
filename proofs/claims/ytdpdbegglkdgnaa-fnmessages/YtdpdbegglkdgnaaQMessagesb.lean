/- A part of the proof that FnMessages returns true at every input: plain functions, contracts and lemmas. No conditions. -/
import Derived.Test.YtdpdbegglkdgnaaQMessagesa
set_option linter.unusedVariables false
set_option linter.unusedSimpArgs false
set_option linter.unusedSectionVars false
section
namespace Go.Proofs.Ytdpdbegglkdgnaa.A
open Go.RowKit Go.Proofs.YtdpdbegglkdgnaaW.PrintWords Go.Proofs.YtdpdbegglkdgnaaW.PrintLast Go.Proofs.YtdpdbegglkdgnaaW.PrintMore
attribute [local go_sem] max2_int min2_int max_two min_two max_three min_three max_four min_four
def spec_l00Source.f (l0 : List Int) : Option (List Int × Int × Int) := some (l0, 0, (l0.length : Int) % 1000)
def spec_l00Source.v (l0 : List Int) : Option (List Int × Int × Int) := spec_l00Source.f l0
theorem spec_l00Source.v_lim (l0 : List Int) : LimIs (fun _ => spec_l00Source.f l0) (spec_l00Source.v l0) := LimIs.const _
theorem spec_l00Source.v_eq (l0 : List Int) : spec_l00Source.v l0 = (some (l0, 0, (l0.length : Int) % 1000) : Option (List Int × Int × Int)) := rfl
def spec_l00Src_byte.f (s0_0 : List Int) (s0_1 : Int) (s0_2 : Int) : Option (Int × Int × Int) := if (wrap64 (s0_1 + 1)) ≤ (s0_0.length : Int) then (if 0 ≤ (wrap64 ((wrap64 (s0_1 + 1)) - 1)) then (if (wrap64 ((wrap64 (s0_1 + 1)) - 1)) < (s0_0.length : Int) then (some (wrap64 (rd s0_0 (wrap64 ((wrap64 (s0_1 + 1)) - 1))), wrap64 (s0_1 + 1), Int.tmod (wrap64 ((wrap64 ((wrap64 (s0_2 * 31)) + (wrap64 (rd s0_0 (wrap64 ((wrap64 (s0_1 + 1)) - 1)))))) + 7)) 2147483648)) else (none)) else (none)) else (if (wrap64 (s0_1 + 1)) > 3000 then (some (0, wrap64 (s0_1 + 1), s0_2)) else (some (Int.tmod (wrap64 (Int.tdiv (Int.tmod (wrap64 ((wrap64 (s0_2 * 1103515245)) + 12345)) 2147483648) 65536)) 256, wrap64 (s0_1 + 1), Int.tmod (wrap64 ((wrap64 (s0_2 * 1103515245)) + 12345)) 2147483648)))
def spec_l00Src_byte.v (s0_0 : List Int) (s0_1 : Int) (s0_2 : Int) : Option (Int × Int × Int) := spec_l00Src_byte.f s0_0 s0_1 s0_2
theorem spec_l00Src_byte.v_eq (s0_0 : List Int) (s0_1 : Int) (s0_2 : Int) : spec_l00Src_byte.v s0_0 s0_1 s0_2 = (if (wrap64 (s0_1 + 1)) ≤ (s0_0.length : Int) then (if 0 ≤ (wrap64 ((wrap64 (s0_1 + 1)) - 1)) then (if (wrap64 ((wrap64 (s0_1 + 1)) - 1)) < (s0_0.length : Int) then (some (wrap64 (rd s0_0 (wrap64 ((wrap64 (s0_1 + 1)) - 1))), wrap64 (s0_1 + 1), Int.tmod (wrap64 ((wrap64 ((wrap64 (s0_2 * 31)) + (wrap64 (rd s0_0 (wrap64 ((wrap64 (s0_1 + 1)) - 1)))))) + 7)) 2147483648)) else (none)) else (none)) else (if (wrap64 (s0_1 + 1)) > 3000 then (some (0, wrap64 (s0_1 + 1), s0_2)) else (some (Int.tmod (wrap64 (Int.tdiv (Int.tmod (wrap64 ((wrap64 (s0_2 * 1103515245)) + 12345)) 2147483648) 65536)) 256, wrap64 (s0_1 + 1), Int.tmod (wrap64 ((wrap64 (s0_2 * 1103515245)) + 12345)) 2147483648))) : Option (Int × Int × Int)) := rfl
def spec_l00Src_next.f (s0_0 : List Int) (s0_1 : Int) (s0_2 : Int) (a1 : Int) : Option (Int × Int × Int) := if a1 ≤ 1 then (some (0, s0_1, s0_2)) else (if a1 ≤ 256 then ((spec_l00Src_byte.f s0_0 s0_1 s0_2).bind fun bt104 => (if a1 = 0 then (none) else (some (Int.tmod bt104.1 a1, bt104.2.1, bt104.2.2)))) else ((spec_l00Src_byte.f s0_0 s0_1 s0_2).bind fun bt107 => ((spec_l00Src_byte.f s0_0 bt107.2.1 bt107.2.2).bind fun bt110 => ((spec_l00Src_byte.f s0_0 bt110.2.1 bt110.2.2).bind fun bt113 => (if a1 = 0 then (none) else (some (Int.tmod (wrap64 ((wrap64 ((wrap64 (bt107.1 * 65536)) + (wrap64 (bt110.1 * 256)))) + bt113.1)) a1, bt113.2.1, bt113.2.2)))))))
def spec_l00Src_next.v (s0_0 : List Int) (s0_1 : Int) (s0_2 : Int) (a1 : Int) : Option (Int × Int × Int) := spec_l00Src_next.f s0_0 s0_1 s0_2 a1
theorem spec_l00Src_next.v_lim (s0_0 : List Int) (s0_1 : Int) (s0_2 : Int) (a1 : Int) : LimIs (fun _ => spec_l00Src_next.f s0_0 s0_1 s0_2 a1) (spec_l00Src_next.v s0_0 s0_1 s0_2 a1) := LimIs.const _
theorem spec_l00Src_next.v_eq (s0_0 : List Int) (s0_1 : Int) (s0_2 : Int) (a1 : Int) : spec_l00Src_next.v s0_0 s0_1 s0_2 a1 = (if a1 ≤ 1 then (some (0, s0_1, s0_2)) else (if a1 ≤ 256 then ((spec_l00Src_byte.v s0_0 s0_1 s0_2).bind fun bt104 => (if a1 = 0 then (none) else (some (Int.tmod bt104.1 a1, bt104.2.1, bt104.2.2)))) else ((spec_l00Src_byte.v s0_0 s0_1 s0_2).bind fun bt107 => ((spec_l00Src_byte.v s0_0 bt107.2.1 bt107.2.2).bind fun bt110 => ((spec_l00Src_byte.v s0_0 bt110.2.1 bt110.2.2).bind fun bt113 => (if a1 = 0 then (none) else (some (Int.tmod (wrap64 ((wrap64 ((wrap64 (bt107.1 * 65536)) + (wrap64 (bt110.1 * 256)))) + bt113.1)) a1, bt113.2.1, bt113.2.2))))))) : Option (Int × Int × Int)) := rfl
def spec_l00Src_pick.f (s0_0 : List Int) (s0_1 : Int) (s0_2 : Int) (l1 : List ByteArray) : Option (ByteArray × Int × Int) := if (l1.length : Int) = 0 then (some ((⟨#[]⟩ : ByteArray), s0_1, s0_2)) else ((spec_l00Src_next.f s0_0 s0_1 s0_2 (l1.length : Int)).bind fun bt116 => (if 0 ≤ bt116.1 then (if bt116.1 < (l1.length : Int) then (some (rdOf ByteArray.empty l1 bt116.1, bt116.2.1, bt116.2.2)) else (none)) else (none)))
def spec_l00Src_pick.v (s0_0 : List Int) (s0_1 : Int) (s0_2 : Int) (l1 : List ByteArray) : Option (ByteArray × Int × Int) := spec_l00Src_pick.f s0_0 s0_1 s0_2 l1
theorem spec_l00Src_pick.v_eq (s0_0 : List Int) (s0_1 : Int) (s0_2 : Int) (l1 : List ByteArray) : spec_l00Src_pick.v s0_0 s0_1 s0_2 l1 = (if (l1.length : Int) = 0 then (some ((⟨#[]⟩ : ByteArray), s0_1, s0_2)) else ((spec_l00Src_next.v s0_0 s0_1 s0_2 (l1.length : Int)).bind fun bt116 => (if 0 ≤ bt116.1 then (if bt116.1 < (l1.length : Int) then (some (rdOf ByteArray.empty l1 bt116.1, bt116.2.1, bt116.2.2)) else (none)) else (none))) : Option (ByteArray × Int × Int)) := rfl
def spec_l00Src_request.f (s0_0 : List Int) (s0_1 : Int) (s0_2 : Int) : Option (Int × Int × Int × Int × ByteArray × Int × Int) := (spec_l00Src_next.f s0_0 s0_1 s0_2 3).bind fun bt121 => ((spec_l00Src_next.f s0_0 bt121.2.1 bt121.2.2 5).bind fun bt124 => ((spec_l00Src_next.f s0_0 bt124.2.1 bt124.2.2 4).bind fun bt127 => ((spec_l00Src_pick.f s0_0 bt127.2.1 bt127.2.2 (([(⟨#[97]⟩ : ByteArray), (⟨#[98]⟩ : ByteArray), (⟨#[108, 111, 99, 107]⟩ : ByteArray)] : List ByteArray))).bind fun bt133 => (if (wrap64 (1 + bt127.1)) = 1 then ((spec_l00Src_next.f s0_0 bt133.2.1 bt133.2.2 30).bind fun bt137 => (some (bt121.1, wrap64 (1 + bt124.1), wrap64 (1 + bt127.1), wrap64 (1 + bt137.1), bt133.1, bt137.2.1, bt137.2.2))) else (if (wrap64 (1 + bt127.1)) = 3 then ((spec_l00Src_next.f s0_0 bt133.2.1 bt133.2.2 30).bind fun bt140 => (some (bt121.1, wrap64 (1 + bt124.1), wrap64 (1 + bt127.1), wrap64 (1 + bt140.1), bt133.1, bt140.2.1, bt140.2.2))) else (some (bt121.1, wrap64 (1 + bt124.1), wrap64 (1 + bt127.1), 0, bt133.1, bt133.2.1, bt133.2.2)))))))
def spec_l00Src_request.v (s0_0 : List Int) (s0_1 : Int) (s0_2 : Int) : Option (Int × Int × Int × Int × ByteArray × Int × Int) := spec_l00Src_request.f s0_0 s0_1 s0_2
theorem spec_l00Src_request.v_lim (s0_0 : List Int) (s0_1 : Int) (s0_2 : Int) : LimIs (fun _ => spec_l00Src_request.f s0_0 s0_1 s0_2) (spec_l00Src_request.v s0_0 s0_1 s0_2) := LimIs.const _
theorem spec_l00Src_request.v_eq (s0_0 : List Int) (s0_1 : Int) (s0_2 : Int) : spec_l00Src_request.v s0_0 s0_1 s0_2 = ((spec_l00Src_next.v s0_0 s0_1 s0_2 3).bind fun bt121 => ((spec_l00Src_next.v s0_0 bt121.2.1 bt121.2.2 5).bind fun bt124 => ((spec_l00Src_next.v s0_0 bt124.2.1 bt124.2.2 4).bind fun bt127 => ((spec_l00Src_pick.v s0_0 bt127.2.1 bt127.2.2 (([(⟨#[97]⟩ : ByteArray), (⟨#[98]⟩ : ByteArray), (⟨#[108, 111, 99, 107]⟩ : ByteArray)] : List ByteArray))).bind fun bt133 => (if (wrap64 (1 + bt127.1)) = 1 then ((spec_l00Src_next.v s0_0 bt133.2.1 bt133.2.2 30).bind fun bt137 => (some (bt121.1, wrap64 (1 + bt124.1), wrap64 (1 + bt127.1), wrap64 (1 + bt137.1), bt133.1, bt137.2.1, bt137.2.2))) else (if (wrap64 (1 + bt127.1)) = 3 then ((spec_l00Src_next.v s0_0 bt133.2.1 bt133.2.2 30).bind fun bt140 => (some (bt121.1, wrap64 (1 + bt124.1), wrap64 (1 + bt127.1), wrap64 (1 + bt140.1), bt133.1, bt140.2.1, bt140.2.2))) else (some (bt121.1, wrap64 (1 + bt124.1), wrap64 (1 + bt127.1), 0, bt133.1, bt133.2.1, bt133.2.2))))))) : Option (Int × Int × Int × Int × ByteArray × Int × Int)) := rfl
def spec_l01Consts.f  : Option (List Int) := some (([1116352408, 1899447441, 3049323471, 3921009573, 961987163, 1508970993, 2453635748, 2870763221, 3624381080, 310598401, 607225278, 1426881987, 1925078388, 2162078206, 2614888103, 3248222580, 3835390401, 4022224774, 264347078, 604807628, 770255983, 1249150122, 1555081692, 1996064986, 2554220882, 2821834349, 2952996808, 3210313671, 3336571891, 3584528711, 113926993, 338241895, 666307205, 773529912, 1294757372, 1396182291, 1695183700, 1986661051, 2177026350, 2456956037, 2730485921, 2820302411, 3259730800, 3345764771, 3516065817, 3600352804, 4094571909, 275423344, 430227734, 506948616, 659060556, 883997877, 958139571, 1322822218, 1537002063, 1747873779, 1955562222, 2024104815, 2227730452, 2361852424, 2428436474, 2756734187, 3204031479, 3329325298] : List Int))
def spec_l01Consts.v : Option (List Int) := spec_l01Consts.f
theorem spec_l01Consts.v_lim : LimIs (fun _ => spec_l01Consts.f ) (spec_l01Consts.v ) := LimIs.const _
theorem spec_l01Consts.v_eq : spec_l01Consts.v  = (some (([1116352408, 1899447441, 3049323471, 3921009573, 961987163, 1508970993, 2453635748, 2870763221, 3624381080, 310598401, 607225278, 1426881987, 1925078388, 2162078206, 2614888103, 3248222580, 3835390401, 4022224774, 264347078, 604807628, 770255983, 1249150122, 1555081692, 1996064986, 2554220882, 2821834349, 2952996808, 3210313671, 3336571891, 3584528711, 113926993, 338241895, 666307205, 773529912, 1294757372, 1396182291, 1695183700, 1986661051, 2177026350, 2456956037, 2730485921, 2820302411, 3259730800, 3345764771, 3516065817, 3600352804, 4094571909, 275423344, 430227734, 506948616, 659060556, 883997877, 958139571, 1322822218, 1537002063, 1747873779, 1955562222, 2024104815, 2227730452, 2361852424, 2428436474, 2756734187, 3204031479, 3329325298] : List Int)) : Option (List Int)) := rfl
def spec_l01Turn.f (a0 : Int) (a1 : Int) : Option (Int) := if 0 ≤ a1 then (if 0 ≤ (IntKind.u64.wrap (32 - a1)) then (some (Go.bits .or .u32 (shr .u32 a0 a1) (shl .u32 a0 (IntKind.u64.wrap (32 - a1))))) else (none)) else (none)
def spec_l01Turn.v (a0 : Int) (a1 : Int) : Option (Int) := spec_l01Turn.f a0 a1
theorem spec_l01Turn.v_lim (a0 : Int) (a1 : Int) : LimIs (fun _ => spec_l01Turn.f a0 a1) (spec_l01Turn.v a0 a1) := LimIs.const _
theorem spec_l01Turn.v_eq (a0 : Int) (a1 : Int) : spec_l01Turn.v a0 a1 = (if 0 ≤ a1 then (if 0 ≤ (IntKind.u64.wrap (32 - a1)) then (some (Go.bits .or .u32 (shr .u32 a0 a1) (shl .u32 a0 (IntKind.u64.wrap (32 - a1))))) else (none)) else (none) : Option (Int)) := rfl
mutual
def spec_l01Block.l0 : Nat → List Int → List Int → List Int → List Int → Int → Option (List Int)
  | 0, _, _, _, _, _ => none
  | k + 1, x0, x1, x2, x6, x7 => if x7 < 16 then (if 0 ≤ (wrap64 (4 * x7)) then (if (wrap64 (4 * x7)) < (x1.length : Int) then (if 0 ≤ (wrap64 ((wrap64 (4 * x7)) + 1)) then (if (wrap64 ((wrap64 (4 * x7)) + 1)) < (x1.length : Int) then (if 0 ≤ (wrap64 ((wrap64 (4 * x7)) + 2)) then (if (wrap64 ((wrap64 (4 * x7)) + 2)) < (x1.length : Int) then (if 0 ≤ (wrap64 ((wrap64 (4 * x7)) + 3)) then (if (wrap64 ((wrap64 (4 * x7)) + 3)) < (x1.length : Int) then (if 0 ≤ x7 then (if x7 < (x6.length : Int) then (spec_l01Block.l0 k x0 x1 x2 (x6.set (x7 : Int).toNat (Go.bits .or .u32 (Go.bits .or .u32 (Go.bits .or .u32 ((((rd x1 (wrap64 (4 * x7))) % 4294967296) * 16777216) % 4294967296) ((((rd x1 (wrap64 ((wrap64 (4 * x7)) + 1))) % 4294967296) * 65536) % 4294967296)) ((((rd x1 (wrap64 ((wrap64 (4 * x7)) + 2))) % 4294967296) * 256) % 4294967296)) ((rd x1 (wrap64 ((wrap64 (4 * x7)) + 3))) % 4294967296))) (wrap64 (x7 + 1))) else (none)) else (none)) else (none)) else (none)) else (none)) else (none)) else (none)) else (none)) else (none)) else (none)) else (spec_l01Block.l1 k x0 x2 x6 16)
def spec_l01Block.l1 : Nat → List Int → List Int → List Int → Int → Option (List Int)
  | 0, _, _, _, _ => none
  | k + 1, x0, x2, x6, x8 => if x8 < 64 then (if 0 ≤ (wrap64 (x8 - 15)) then (if (wrap64 (x8 - 15)) < (x6.length : Int) then (if 0 ≤ (wrap64 (x8 - 2)) then (if (wrap64 (x8 - 2)) < (x6.length : Int) then (if 0 ≤ (wrap64 (x8 - 16)) then (if (wrap64 (x8 - 16)) < (x6.length : Int) then ((spec_l01Turn.f (rd x6 (wrap64 (x8 - 15))) 7).bind fun t157 => ((spec_l01Turn.f (rd x6 (wrap64 (x8 - 15))) 18).bind fun t158 => (if 0 ≤ (wrap64 (x8 - 7)) then (if (wrap64 (x8 - 7)) < (x6.length : Int) then ((spec_l01Turn.f (rd x6 (wrap64 (x8 - 2))) 17).bind fun t160 => ((spec_l01Turn.f (rd x6 (wrap64 (x8 - 2))) 19).bind fun t161 => (if 0 ≤ x8 then (if x8 < (x6.length : Int) then (spec_l01Block.l1 k x0 x2 (x6.set (x8 : Int).toNat (((((rd x6 (wrap64 (x8 - 16))) + (Go.bits .xor .u32 (Go.bits .xor .u32 t157 t158) ((rd x6 (wrap64 (x8 - 15))) / 8))) + (rd x6 (wrap64 (x8 - 7)))) + (Go.bits .xor .u32 (Go.bits .xor .u32 t160 t161) ((rd x6 (wrap64 (x8 - 2))) / 1024))) % 4294967296)) (wrap64 (x8 + 1))) else (none)) else (none)))) else (none)) else (none)))) else (none)) else (none)) else (none)) else (none)) else (none)) else (none)) else ((some (([] : List Int) : List Int)).bind fun y163 => (if y163.length + x0.length < 35184372088832 then (spec_l01Block.l2 k x0 x2 x6 (y163 ++ x0) 0) else (none)))
def spec_l01Block.l2 : Nat → List Int → List Int → List Int → List Int → Int → Option (List Int)
  | 0, _, _, _, _, _ => none
  | k + 1, x0, x2, x6, x11, x12 => if x12 < 64 then (if 4 < (x11.length : Int) then (if 0 < (x11.length : Int) then (if 7 < (x11.length : Int) then ((spec_l01Turn.f (rd x11 4) 6).bind fun t172 => ((spec_l01Turn.f (rd x11 4) 11).bind fun t173 => ((spec_l01Turn.f (rd x11 4) 25).bind fun t174 => (if 5 < (x11.length : Int) then (if 6 < (x11.length : Int) then (if 0 ≤ x12 then (if x12 < (x2.length : Int) then (if x12 < (x6.length : Int) then ((spec_l01Turn.f (rd x11 0) 2).bind fun t179 => ((spec_l01Turn.f (rd x11 0) 13).bind fun t180 => ((spec_l01Turn.f (rd x11 0) 22).bind fun t181 => (if 1 < (x11.length : Int) then (if 2 < (x11.length : Int) then (if 3 < (x11.length : Int) then (spec_l01Block.l2 k x0 x2 x6 (([((((((rd x11 7) + (Go.bits .xor .u32 (Go.bits .xor .u32 t172 t173) t174)) + (Go.bits .xor .u32 (Go.bits .and .u32 (rd x11 4) (rd x11 5)) (Go.bits .and .u32 (Go.bits .xor .u32 4294967295 (rd x11 4)) (rd x11 6)))) + (rd x2 x12)) + (rd x6 x12)) + ((Go.bits .xor .u32 (Go.bits .xor .u32 t179 t180) t181) + (Go.bits .xor .u32 (Go.bits .xor .u32 (Go.bits .and .u32 (rd x11 0) (rd x11 1)) (Go.bits .and .u32 (rd x11 0) (rd x11 2))) (Go.bits .and .u32 (rd x11 1) (rd x11 2))))) % 4294967296, rd x11 0, rd x11 1, rd x11 2, ((rd x11 3) + (((((rd x11 7) + (Go.bits .xor .u32 (Go.bits .xor .u32 t172 t173) t174)) + (Go.bits .xor .u32 (Go.bits .and .u32 (rd x11 4) (rd x11 5)) (Go.bits .and .u32 (Go.bits .xor .u32 4294967295 (rd x11 4)) (rd x11 6)))) + (rd x2 x12)) + (rd x6 x12))) % 4294967296, rd x11 4, rd x11 5, rd x11 6] : List Int)) (wrap64 (x12 + 1))) else (none)) else (none)) else (none))))) else (none)) else (none)) else (none)) else (none)) else (none))))) else (none)) else (none)) else (none)) else (spec_l01Block.l3 k x0 x11 0)
def spec_l01Block.l3 : Nat → List Int → List Int → Int → Option (List Int)
  | 0, _, _, _ => none
  | k + 1, x0, x11, x17 => if x17 < 8 then (if 0 ≤ x17 then (if x17 < (x0.length : Int) then (if x17 < (x11.length : Int) then (spec_l01Block.l3 k (x0.set (x17 : Int).toNat (((rd x0 x17) + (rd x11 x17)) % 4294967296)) x11 (wrap64 (x17 + 1))) else (none)) else (none)) else (none)) else (some x0)
end
def spec_l01Block.f (k : Nat) (l0 : List Int) (l1 : List Int) (l2 : List Int) : Option (List Int) := if l0.length = 8 ∧ l1.length = 64 ∧ l2.length = 64 then (if 64 ≤ 70368744177664 then (spec_l01Block.l0 k l0 l1 l2 (List.replicate 64 0) 0) else (none)) else (none)
theorem spec_l01Block.mono_l : ∀ k, (∀ y0 y1 y2 y3 y4, LeO (spec_l01Block.l0 k y0 y1 y2 y3 y4) (spec_l01Block.l0 (k + 1) y0 y1 y2 y3 y4)) ∧ (∀ y0 y1 y2 y3, LeO (spec_l01Block.l1 k y0 y1 y2 y3) (spec_l01Block.l1 (k + 1) y0 y1 y2 y3)) ∧ (∀ y0 y1 y2 y3 y4, LeO (spec_l01Block.l2 k y0 y1 y2 y3 y4) (spec_l01Block.l2 (k + 1) y0 y1 y2 y3 y4)) ∧ (∀ y0 y1 y2, LeO (spec_l01Block.l3 k y0 y1 y2) (spec_l01Block.l3 (k + 1) y0 y1 y2))
  | 0 => ⟨fun _ _ _ _ _ r h => by simp [spec_l01Block.l0] at h, fun _ _ _ _ r h => by simp [spec_l01Block.l1] at h, fun _ _ _ _ _ r h => by simp [spec_l01Block.l2] at h, fun _ _ _ r h => by simp [spec_l01Block.l3] at h⟩
  | k + 1 => by
    obtain ⟨ih0, ih1, ih2, ih3⟩ := spec_l01Block.mono_l k
    refine ⟨?_, ?_, ?_, ?_⟩
    · intro y0 y1 y2 y3 y4
      unfold spec_l01Block.l0
      repeat' first
      | (with_reducible exact ih0 _ _ _ _ _)
      | (with_reducible exact ih1 _ _ _ _)
      | (with_reducible exact ih2 _ _ _ _ _)
      | (with_reducible exact ih3 _ _ _)
      | (with_reducible exact LeO.refl _)
      | (with_reducible exact LeO.none _)
      | (with_reducible refine LeO.ite ?_ ?_)
      | (with_reducible refine LeO.bind ?_ (fun _ => ?_))
      | exact ih0 _ _ _ _ _
      | exact ih1 _ _ _ _
      | exact ih2 _ _ _ _ _
      | exact ih3 _ _ _
      | exact LeO.none _
      | refine LeO.ite ?_ ?_
      | refine LeO.bind ?_ (fun _ => ?_)
    · intro y0 y1 y2 y3
      unfold spec_l01Block.l1
      repeat' first
      | (with_reducible exact ih0 _ _ _ _ _)
      | (with_reducible exact ih1 _ _ _ _)
      | (with_reducible exact ih2 _ _ _ _ _)
      | (with_reducible exact ih3 _ _ _)
      | (with_reducible exact LeO.refl _)
      | (with_reducible exact LeO.none _)
      | (with_reducible refine LeO.ite ?_ ?_)
      | (with_reducible refine LeO.bind ?_ (fun _ => ?_))
      | exact ih0 _ _ _ _ _
      | exact ih1 _ _ _ _
      | exact ih2 _ _ _ _ _
      | exact ih3 _ _ _
      | exact LeO.none _
      | refine LeO.ite ?_ ?_
      | refine LeO.bind ?_ (fun _ => ?_)
    · intro y0 y1 y2 y3 y4
      unfold spec_l01Block.l2
      repeat' first
      | (with_reducible exact ih0 _ _ _ _ _)
      | (with_reducible exact ih1 _ _ _ _)
      | (with_reducible exact ih2 _ _ _ _ _)
      | (with_reducible exact ih3 _ _ _)
      | (with_reducible exact LeO.refl _)
      | (with_reducible exact LeO.none _)
      | (with_reducible refine LeO.ite ?_ ?_)
      | (with_reducible refine LeO.bind ?_ (fun _ => ?_))
      | exact ih0 _ _ _ _ _
      | exact ih1 _ _ _ _
      | exact ih2 _ _ _ _ _
      | exact ih3 _ _ _
      | exact LeO.none _
      | refine LeO.ite ?_ ?_
      | refine LeO.bind ?_ (fun _ => ?_)
    · intro y0 y1 y2
      unfold spec_l01Block.l3
      repeat' first
      | (with_reducible exact ih0 _ _ _ _ _)
      | (with_reducible exact ih1 _ _ _ _)
      | (with_reducible exact ih2 _ _ _ _ _)
      | (with_reducible exact ih3 _ _ _)
      | (with_reducible exact LeO.refl _)
      | (with_reducible exact LeO.none _)
      | (with_reducible refine LeO.ite ?_ ?_)
      | (with_reducible refine LeO.bind ?_ (fun _ => ?_))
      | exact ih0 _ _ _ _ _
      | exact ih1 _ _ _ _
      | exact ih2 _ _ _ _ _
      | exact ih3 _ _ _
      | exact LeO.none _
      | refine LeO.ite ?_ ?_
      | refine LeO.bind ?_ (fun _ => ?_)
theorem spec_l01Block.mono : ∀ a0 a1 a2 k, LeO (spec_l01Block.f k a0 a1 a2) (spec_l01Block.f (k + 1) a0 a1 a2) := by
  intro a0 a1 a2 k
  obtain ⟨ih0, ih1, ih2, ih3⟩ := spec_l01Block.mono_l k
  unfold spec_l01Block.f
  repeat' first
      | (with_reducible exact ih0 _ _ _ _ _)
      | (with_reducible exact ih1 _ _ _ _)
      | (with_reducible exact ih2 _ _ _ _ _)
      | (with_reducible exact ih3 _ _ _)
      | (with_reducible exact LeO.refl _)
      | (with_reducible exact LeO.none _)
      | (with_reducible refine LeO.ite ?_ ?_)
      | (with_reducible refine LeO.bind ?_ (fun _ => ?_))
      | exact ih0 _ _ _ _ _
      | exact ih1 _ _ _ _
      | exact ih2 _ _ _ _ _
      | exact ih3 _ _ _
      | exact LeO.none _
      | refine LeO.ite ?_ ?_
      | refine LeO.bind ?_ (fun _ => ?_)
noncomputable def spec_l01Block.lv0 (x0 : List Int) (x1 : List Int) (x2 : List Int) (x6 : List Int) (x7 : Int) : Option (List Int) := lim (fun k_ => spec_l01Block.l0 k_ x0 x1 x2 x6 x7)
noncomputable def spec_l01Block.lv1 (x0 : List Int) (x2 : List Int) (x6 : List Int) (x8 : Int) : Option (List Int) := lim (fun k_ => spec_l01Block.l1 k_ x0 x2 x6 x8)
noncomputable def spec_l01Block.lv2 (x0 : List Int) (x2 : List Int) (x6 : List Int) (x11 : List Int) (x12 : Int) : Option (List Int) := lim (fun k_ => spec_l01Block.l2 k_ x0 x2 x6 x11 x12)
noncomputable def spec_l01Block.lv3 (x0 : List Int) (x11 : List Int) (x17 : Int) : Option (List Int) := lim (fun k_ => spec_l01Block.l3 k_ x0 x11 x17)
noncomputable def spec_l01Block.v (l0 : List Int) (l1 : List Int) (l2 : List Int) : Option (List Int) := lim (fun k_ => spec_l01Block.f k_ l0 l1 l2)
theorem spec_l01Block.lv0_lim (x0 : List Int) (x1 : List Int) (x2 : List Int) (x6 : List Int) (x7 : Int) : LimIs (fun k_ => spec_l01Block.l0 k_ x0 x1 x2 x6 x7) (spec_l01Block.lv0 x0 x1 x2 x6 x7) := lim_is (fun k_ => (spec_l01Block.mono_l k_).1 x0 x1 x2 x6 x7)
theorem spec_l01Block.lv1_lim (x0 : List Int) (x2 : List Int) (x6 : List Int) (x8 : Int) : LimIs (fun k_ => spec_l01Block.l1 k_ x0 x2 x6 x8) (spec_l01Block.lv1 x0 x2 x6 x8) := lim_is (fun k_ => (spec_l01Block.mono_l k_).2.1 x0 x2 x6 x8)
theorem spec_l01Block.lv2_lim (x0 : List Int) (x2 : List Int) (x6 : List Int) (x11 : List Int) (x12 : Int) : LimIs (fun k_ => spec_l01Block.l2 k_ x0 x2 x6 x11 x12) (spec_l01Block.lv2 x0 x2 x6 x11 x12) := lim_is (fun k_ => (spec_l01Block.mono_l k_).2.2.1 x0 x2 x6 x11 x12)
theorem spec_l01Block.lv3_lim (x0 : List Int) (x11 : List Int) (x17 : Int) : LimIs (fun k_ => spec_l01Block.l3 k_ x0 x11 x17) (spec_l01Block.lv3 x0 x11 x17) := lim_is (fun k_ => (spec_l01Block.mono_l k_).2.2.2 x0 x11 x17)
theorem spec_l01Block.v_lim (l0 : List Int) (l1 : List Int) (l2 : List Int) : LimIs (fun k_ => spec_l01Block.f k_ l0 l1 l2) (spec_l01Block.v l0 l1 l2) := lim_is (fun k_ => spec_l01Block.mono l0 l1 l2 k_)
theorem spec_l01Block.lv0_eq (x0 : List Int) (x1 : List Int) (x2 : List Int) (x6 : List Int) (x7 : Int) : spec_l01Block.lv0 x0 x1 x2 x6 x7 = (if x7 < 16 then (if 0 ≤ (wrap64 (4 * x7)) then (if (wrap64 (4 * x7)) < (x1.length : Int) then (if 0 ≤ (wrap64 ((wrap64 (4 * x7)) + 1)) then (if (wrap64 ((wrap64 (4 * x7)) + 1)) < (x1.length : Int) then (if 0 ≤ (wrap64 ((wrap64 (4 * x7)) + 2)) then (if (wrap64 ((wrap64 (4 * x7)) + 2)) < (x1.length : Int) then (if 0 ≤ (wrap64 ((wrap64 (4 * x7)) + 3)) then (if (wrap64 ((wrap64 (4 * x7)) + 3)) < (x1.length : Int) then (if 0 ≤ x7 then (if x7 < (x6.length : Int) then (spec_l01Block.lv0 x0 x1 x2 (x6.set (x7 : Int).toNat (Go.bits .or .u32 (Go.bits .or .u32 (Go.bits .or .u32 ((((rd x1 (wrap64 (4 * x7))) % 4294967296) * 16777216) % 4294967296) ((((rd x1 (wrap64 ((wrap64 (4 * x7)) + 1))) % 4294967296) * 65536) % 4294967296)) ((((rd x1 (wrap64 ((wrap64 (4 * x7)) + 2))) % 4294967296) * 256) % 4294967296)) ((rd x1 (wrap64 ((wrap64 (4 * x7)) + 3))) % 4294967296))) (wrap64 (x7 + 1))) else (none)) else (none)) else (none)) else (none)) else (none)) else (none)) else (none)) else (none)) else (none)) else (none)) else (spec_l01Block.lv1 x0 x2 x6 16) : Option (List Int)) := by
  refine LimIs.eq (spec_l01Block.lv0_lim x0 x1 x2 x6 x7) ?_
  refine LimIs.step (fun k_ => (spec_l01Block.mono_l k_).1 x0 x1 x2 x6 x7) ?_
  simp only [spec_l01Block.l0]
  repeat' (with_reducible first | exact spec_l01Block.lv0_lim _ _ _ _ _ | exact spec_l01Block.lv1_lim _ _ _ _ | exact LimIs.const _ | refine LimIs.ite ?_ ?_ | refine LimIs.bind ?_ (fun _ => ?_))
theorem spec_l01Block.lv1_eq (x0 : List Int) (x2 : List Int) (x6 : List Int) (x8 : Int) : spec_l01Block.lv1 x0 x2 x6 x8 = (if x8 < 64 then (if 0 ≤ (wrap64 (x8 - 15)) then (if (wrap64 (x8 - 15)) < (x6.length : Int) then (if 0 ≤ (wrap64 (x8 - 2)) then (if (wrap64 (x8 - 2)) < (x6.length : Int) then (if 0 ≤ (wrap64 (x8 - 16)) then (if (wrap64 (x8 - 16)) < (x6.length : Int) then ((spec_l01Turn.v (rd x6 (wrap64 (x8 - 15))) 7).bind fun t157 => ((spec_l01Turn.v (rd x6 (wrap64 (x8 - 15))) 18).bind fun t158 => (if 0 ≤ (wrap64 (x8 - 7)) then (if (wrap64 (x8 - 7)) < (x6.length : Int) then ((spec_l01Turn.v (rd x6 (wrap64 (x8 - 2))) 17).bind fun t160 => ((spec_l01Turn.v (rd x6 (wrap64 (x8 - 2))) 19).bind fun t161 => (if 0 ≤ x8 then (if x8 < (x6.length : Int) then (spec_l01Block.lv1 x0 x2 (x6.set (x8 : Int).toNat (((((rd x6 (wrap64 (x8 - 16))) + (Go.bits .xor .u32 (Go.bits .xor .u32 t157 t158) ((rd x6 (wrap64 (x8 - 15))) / 8))) + (rd x6 (wrap64 (x8 - 7)))) + (Go.bits .xor .u32 (Go.bits .xor .u32 t160 t161) ((rd x6 (wrap64 (x8 - 2))) / 1024))) % 4294967296)) (wrap64 (x8 + 1))) else (none)) else (none)))) else (none)) else (none)))) else (none)) else (none)) else (none)) else (none)) else (none)) else (none)) else ((some (([] : List Int) : List Int)).bind fun y163 => (if y163.length + x0.length < 35184372088832 then (spec_l01Block.lv2 x0 x2 x6 (y163 ++ x0) 0) else (none))) : Option (List Int)) := by
  refine LimIs.eq (spec_l01Block.lv1_lim x0 x2 x6 x8) ?_
  refine LimIs.step (fun k_ => (spec_l01Block.mono_l k_).2.1 x0 x2 x6 x8) ?_
  simp only [spec_l01Block.l1]
  repeat' (with_reducible first | exact spec_l01Block.lv1_lim _ _ _ _ | exact spec_l01Block.lv2_lim _ _ _ _ _ | exact spec_l01Turn.v_lim _ _ | exact LimIs.const _ | refine LimIs.ite ?_ ?_ | refine LimIs.bind ?_ (fun _ => ?_))
theorem spec_l01Block.lv2_eq (x0 : List Int) (x2 : List Int) (x6 : List Int) (x11 : List Int) (x12 : Int) : spec_l01Block.lv2 x0 x2 x6 x11 x12 = (if x12 < 64 then (if 4 < (x11.length : Int) then (if 0 < (x11.length : Int) then (if 7 < (x11.length : Int) then ((spec_l01Turn.v (rd x11 4) 6).bind fun t172 => ((spec_l01Turn.v (rd x11 4) 11).bind fun t173 => ((spec_l01Turn.v (rd x11 4) 25).bind fun t174 => (if 5 < (x11.length : Int) then (if 6 < (x11.length : Int) then (if 0 ≤ x12 then (if x12 < (x2.length : Int) then (if x12 < (x6.length : Int) then ((spec_l01Turn.v (rd x11 0) 2).bind fun t179 => ((spec_l01Turn.v (rd x11 0) 13).bind fun t180 => ((spec_l01Turn.v (rd x11 0) 22).bind fun t181 => (if 1 < (x11.length : Int) then (if 2 < (x11.length : Int) then (if 3 < (x11.length : Int) then (spec_l01Block.lv2 x0 x2 x6 (([((((((rd x11 7) + (Go.bits .xor .u32 (Go.bits .xor .u32 t172 t173) t174)) + (Go.bits .xor .u32 (Go.bits .and .u32 (rd x11 4) (rd x11 5)) (Go.bits .and .u32 (Go.bits .xor .u32 4294967295 (rd x11 4)) (rd x11 6)))) + (rd x2 x12)) + (rd x6 x12)) + ((Go.bits .xor .u32 (Go.bits .xor .u32 t179 t180) t181) + (Go.bits .xor .u32 (Go.bits .xor .u32 (Go.bits .and .u32 (rd x11 0) (rd x11 1)) (Go.bits .and .u32 (rd x11 0) (rd x11 2))) (Go.bits .and .u32 (rd x11 1) (rd x11 2))))) % 4294967296, rd x11 0, rd x11 1, rd x11 2, ((rd x11 3) + (((((rd x11 7) + (Go.bits .xor .u32 (Go.bits .xor .u32 t172 t173) t174)) + (Go.bits .xor .u32 (Go.bits .and .u32 (rd x11 4) (rd x11 5)) (Go.bits .and .u32 (Go.bits .xor .u32 4294967295 (rd x11 4)) (rd x11 6)))) + (rd x2 x12)) + (rd x6 x12))) % 4294967296, rd x11 4, rd x11 5, rd x11 6] : List Int)) (wrap64 (x12 + 1))) else (none)) else (none)) else (none))))) else (none)) else (none)) else (none)) else (none)) else (none))))) else (none)) else (none)) else (none)) else (spec_l01Block.lv3 x0 x11 0) : Option (List Int)) := by
  refine LimIs.eq (spec_l01Block.lv2_lim x0 x2 x6 x11 x12) ?_
  refine LimIs.step (fun k_ => (spec_l01Block.mono_l k_).2.2.1 x0 x2 x6 x11 x12) ?_
  simp only [spec_l01Block.l2]
  repeat' (with_reducible first | exact spec_l01Block.lv2_lim _ _ _ _ _ | exact spec_l01Block.lv3_lim _ _ _ | exact spec_l01Turn.v_lim _ _ | exact LimIs.const _ | refine LimIs.ite ?_ ?_ | refine LimIs.bind ?_ (fun _ => ?_))
theorem spec_l01Block.lv3_eq (x0 : List Int) (x11 : List Int) (x17 : Int) : spec_l01Block.lv3 x0 x11 x17 = (if x17 < 8 then (if 0 ≤ x17 then (if x17 < (x0.length : Int) then (if x17 < (x11.length : Int) then (spec_l01Block.lv3 (x0.set (x17 : Int).toNat (((rd x0 x17) + (rd x11 x17)) % 4294967296)) x11 (wrap64 (x17 + 1))) else (none)) else (none)) else (none)) else (some x0) : Option (List Int)) := by
  refine LimIs.eq (spec_l01Block.lv3_lim x0 x11 x17) ?_
  refine LimIs.step (fun k_ => (spec_l01Block.mono_l k_).2.2.2 x0 x11 x17) ?_
  simp only [spec_l01Block.l3]
  repeat' (with_reducible first | exact spec_l01Block.lv3_lim _ _ _ | exact LimIs.const _ | refine LimIs.ite ?_ ?_ | refine LimIs.bind ?_ (fun _ => ?_))
theorem spec_l01Block.v_eq (l0 : List Int) (l1 : List Int) (l2 : List Int) : spec_l01Block.v l0 l1 l2 = (if l0.length = 8 ∧ l1.length = 64 ∧ l2.length = 64 then (if 64 ≤ 70368744177664 then (spec_l01Block.lv0 l0 l1 l2 (List.replicate 64 0) 0) else (none)) else (none) : Option (List Int)) := by
  refine LimIs.eq (spec_l01Block.v_lim l0 l1 l2) ?_
  simp only [spec_l01Block.f]
  repeat' (with_reducible first | exact spec_l01Block.lv0_lim _ _ _ _ _ | exact LimIs.const _ | refine LimIs.ite ?_ ?_ | refine LimIs.bind ?_ (fun _ => ?_))
mutual
def spec_l01Hash.l0 : Nat → List Int → List Int → List Int → Option (ByteArray)
  | 0, _, _, _ => none
  | k + 1, x0, x3, x4 => if ((x4.length : Int) % 64) = 56 then (spec_l01Hash.l1 k x0 x3 x4 7) else (if x4.length < 140737488355328 then (spec_l01Hash.l0 k x0 x3 (x4 ++ [0])) else (none))
def spec_l01Hash.l1 : Nat → List Int → List Int → List Int → Int → Option (ByteArray)
  | 0, _, _, _, _ => none
  | k + 1, x0, x3, x4, x5 => if x5 ≥ 0 then (if 0 ≤ (IntKind.u64.wrap (wrap64 (8 * x5))) then (if x4.length < 140737488355328 then (spec_l01Hash.l1 k x0 x3 (x4 ++ [(shr .i64 (wrap64 (8 * (x0.length : Int))) (IntKind.u64.wrap (wrap64 (8 * x5)))) % 256]) (wrap64 (x5 - 1))) else (none)) else (none)) else ((spec_l01Consts.f).bind fun t217 => (spec_l01Hash.l2 k x3 x4 t217 0))
def spec_l01Hash.l2 : Nat → List Int → List Int → List Int → Int → Option (ByteArray)
  | 0, _, _, _, _ => none
  | k + 1, x3, x4, x6, x7 => if x7 < (x4.length : Int) then (if 0 ≤ x7 then (if x7 ≤ (wrap64 (x7 + 64)) then (if (wrap64 (x7 + 64)) ≤ (x4.length : Int) then ((spec_l01Block.f k x3 ((x4.take ((wrap64 (x7 + 64)) : Int).toNat).drop (x7 : Int).toNat) x6).bind fun t224 => (spec_l01Hash.l2 k t224 x4 x6 (wrap64 (x7 + 64)))) else (none)) else (none)) else (none)) else (spec_l01Hash.l3 k x3 (([] : List Int)) 0)
def spec_l01Hash.l3 : Nat → List Int → List Int → Int → Option (ByteArray)
  | 0, _, _, _ => none
  | k + 1, x3, x8, x9 => if x9 < 8 then (if 0 ≤ x9 then (if x9 < (x3.length : Int) then ((some (([((rd x3 x9) / 16777216) % 256, ((rd x3 x9) / 65536) % 256, ((rd x3 x9) / 256) % 256, (rd x3 x9) % 256] : List Int) : List Int)).bind fun y232 => (if x8.length + y232.length < 140737488355328 then (spec_l01Hash.l3 k x3 (x8 ++ y232) (wrap64 (x9 + 1))) else (none))) else (none)) else (none)) else (some (strOfNums x8))
end
def spec_l01Hash.f (k : Nat) (l0 : List Int) : Option (ByteArray) := (some (([] : List Int) : List Int)).bind fun y202 => (if y202.length + l0.length < 140737488355328 then ((some (y202 ++ l0 : List Int)).bind fun y205 => (if y205.length < 140737488355328 then (spec_l01Hash.l0 k l0 (([1779033703, 3144134277, 1013904242, 2773480762, 1359893119, 2600822924, 528734635, 1541459225] : List Int)) (y205 ++ [128])) else (none))) else (none))
theorem spec_l01Hash.mono_l : ∀ k, (∀ y0 y1 y2, LeO (spec_l01Hash.l0 k y0 y1 y2) (spec_l01Hash.l0 (k + 1) y0 y1 y2)) ∧ (∀ y0 y1 y2 y3, LeO (spec_l01Hash.l1 k y0 y1 y2 y3) (spec_l01Hash.l1 (k + 1) y0 y1 y2 y3)) ∧ (∀ y0 y1 y2 y3, LeO (spec_l01Hash.l2 k y0 y1 y2 y3) (spec_l01Hash.l2 (k + 1) y0 y1 y2 y3)) ∧ (∀ y0 y1 y2, LeO (spec_l01Hash.l3 k y0 y1 y2) (spec_l01Hash.l3 (k + 1) y0 y1 y2))
  | 0 => ⟨fun _ _ _ r h => by simp [spec_l01Hash.l0] at h, fun _ _ _ _ r h => by simp [spec_l01Hash.l1] at h, fun _ _ _ _ r h => by simp [spec_l01Hash.l2] at h, fun _ _ _ r h => by simp [spec_l01Hash.l3] at h⟩
  | k + 1 => by
    obtain ⟨ih0, ih1, ih2, ih3⟩ := spec_l01Hash.mono_l k
    refine ⟨?_, ?_, ?_, ?_⟩
    · intro y0 y1 y2
      unfold spec_l01Hash.l0
      repeat' first
      | (with_reducible exact ih0 _ _ _)
      | (with_reducible exact ih1 _ _ _ _)
      | (with_reducible exact ih2 _ _ _ _)
      | (with_reducible exact ih3 _ _ _)
      | (with_reducible exact spec_l01Block.mono _ _ _ _)
      | (with_reducible exact LeO.refl _)
      | (with_reducible exact LeO.none _)
      | (with_reducible refine LeO.ite ?_ ?_)
      | (with_reducible refine LeO.bind ?_ (fun _ => ?_))
      | exact ih0 _ _ _
      | exact ih1 _ _ _ _
      | exact ih2 _ _ _ _
      | exact ih3 _ _ _
      | exact spec_l01Block.mono _ _ _ _
      | exact LeO.none _
      | refine LeO.ite ?_ ?_
      | refine LeO.bind ?_ (fun _ => ?_)
    · intro y0 y1 y2 y3
      unfold spec_l01Hash.l1
      repeat' first
      | (with_reducible exact ih0 _ _ _)
      | (with_reducible exact ih1 _ _ _ _)
      | (with_reducible exact ih2 _ _ _ _)
      | (with_reducible exact ih3 _ _ _)
      | (with_reducible exact spec_l01Block.mono _ _ _ _)
      | (with_reducible exact LeO.refl _)
      | (with_reducible exact LeO.none _)
      | (with_reducible refine LeO.ite ?_ ?_)
      | (with_reducible refine LeO.bind ?_ (fun _ => ?_))
      | exact ih0 _ _ _
      | exact ih1 _ _ _ _
      | exact ih2 _ _ _ _
      | exact ih3 _ _ _
      | exact spec_l01Block.mono _ _ _ _
      | exact LeO.none _
      | refine LeO.ite ?_ ?_
      | refine LeO.bind ?_ (fun _ => ?_)
    · intro y0 y1 y2 y3
      unfold spec_l01Hash.l2
      repeat' first
      | (with_reducible exact ih0 _ _ _)
      | (with_reducible exact ih1 _ _ _ _)
      | (with_reducible exact ih2 _ _ _ _)
      | (with_reducible exact ih3 _ _ _)
      | (with_reducible exact spec_l01Block.mono _ _ _ _)
      | (with_reducible exact LeO.refl _)
      | (with_reducible exact LeO.none _)
      | (with_reducible refine LeO.ite ?_ ?_)
      | (with_reducible refine LeO.bind ?_ (fun _ => ?_))
      | exact ih0 _ _ _
      | exact ih1 _ _ _ _
      | exact ih2 _ _ _ _
      | exact ih3 _ _ _
      | exact spec_l01Block.mono _ _ _ _
      | exact LeO.none _
      | refine LeO.ite ?_ ?_
      | refine LeO.bind ?_ (fun _ => ?_)
    · intro y0 y1 y2
      unfold spec_l01Hash.l3
      repeat' first
      | (with_reducible exact ih0 _ _ _)
      | (with_reducible exact ih1 _ _ _ _)
      | (with_reducible exact ih2 _ _ _ _)
      | (with_reducible exact ih3 _ _ _)
      | (with_reducible exact spec_l01Block.mono _ _ _ _)
      | (with_reducible exact LeO.refl _)
      | (with_reducible exact LeO.none _)
      | (with_reducible refine LeO.ite ?_ ?_)
      | (with_reducible refine LeO.bind ?_ (fun _ => ?_))
      | exact ih0 _ _ _
      | exact ih1 _ _ _ _
      | exact ih2 _ _ _ _
      | exact ih3 _ _ _
      | exact spec_l01Block.mono _ _ _ _
      | exact LeO.none _
      | refine LeO.ite ?_ ?_
      | refine LeO.bind ?_ (fun _ => ?_)
theorem spec_l01Hash.mono : ∀ a0 k, LeO (spec_l01Hash.f k a0) (spec_l01Hash.f (k + 1) a0) := by
  intro a0 k
  obtain ⟨ih0, ih1, ih2, ih3⟩ := spec_l01Hash.mono_l k
  unfold spec_l01Hash.f
  repeat' first
      | (with_reducible exact ih0 _ _ _)
      | (with_reducible exact ih1 _ _ _ _)
      | (with_reducible exact ih2 _ _ _ _)
      | (with_reducible exact ih3 _ _ _)
      | (with_reducible exact spec_l01Block.mono _ _ _ _)
      | (with_reducible exact LeO.refl _)
      | (with_reducible exact LeO.none _)
      | (with_reducible refine LeO.ite ?_ ?_)
      | (with_reducible refine LeO.bind ?_ (fun _ => ?_))
      | exact ih0 _ _ _
      | exact ih1 _ _ _ _
      | exact ih2 _ _ _ _
      | exact ih3 _ _ _
      | exact spec_l01Block.mono _ _ _ _
      | exact LeO.none _
      | refine LeO.ite ?_ ?_
      | refine LeO.bind ?_ (fun _ => ?_)
noncomputable def spec_l01Hash.lv0 (x0 : List Int) (x3 : List Int) (x4 : List Int) : Option (ByteArray) := lim (fun k_ => spec_l01Hash.l0 k_ x0 x3 x4)
noncomputable def spec_l01Hash.lv1 (x0 : List Int) (x3 : List Int) (x4 : List Int) (x5 : Int) : Option (ByteArray) := lim (fun k_ => spec_l01Hash.l1 k_ x0 x3 x4 x5)
noncomputable def spec_l01Hash.lv2 (x3 : List Int) (x4 : List Int) (x6 : List Int) (x7 : Int) : Option (ByteArray) := lim (fun k_ => spec_l01Hash.l2 k_ x3 x4 x6 x7)
noncomputable def spec_l01Hash.lv3 (x3 : List Int) (x8 : List Int) (x9 : Int) : Option (ByteArray) := lim (fun k_ => spec_l01Hash.l3 k_ x3 x8 x9)
noncomputable def spec_l01Hash.v (l0 : List Int) : Option (ByteArray) := lim (fun k_ => spec_l01Hash.f k_ l0)
theorem spec_l01Hash.lv0_lim (x0 : List Int) (x3 : List Int) (x4 : List Int) : LimIs (fun k_ => spec_l01Hash.l0 k_ x0 x3 x4) (spec_l01Hash.lv0 x0 x3 x4) := lim_is (fun k_ => (spec_l01Hash.mono_l k_).1 x0 x3 x4)
theorem spec_l01Hash.lv1_lim (x0 : List Int) (x3 : List Int) (x4 : List Int) (x5 : Int) : LimIs (fun k_ => spec_l01Hash.l1 k_ x0 x3 x4 x5) (spec_l01Hash.lv1 x0 x3 x4 x5) := lim_is (fun k_ => (spec_l01Hash.mono_l k_).2.1 x0 x3 x4 x5)
theorem spec_l01Hash.lv2_lim (x3 : List Int) (x4 : List Int) (x6 : List Int) (x7 : Int) : LimIs (fun k_ => spec_l01Hash.l2 k_ x3 x4 x6 x7) (spec_l01Hash.lv2 x3 x4 x6 x7) := lim_is (fun k_ => (spec_l01Hash.mono_l k_).2.2.1 x3 x4 x6 x7)
theorem spec_l01Hash.lv3_lim (x3 : List Int) (x8 : List Int) (x9 : Int) : LimIs (fun k_ => spec_l01Hash.l3 k_ x3 x8 x9) (spec_l01Hash.lv3 x3 x8 x9) := lim_is (fun k_ => (spec_l01Hash.mono_l k_).2.2.2 x3 x8 x9)
theorem spec_l01Hash.v_lim (l0 : List Int) : LimIs (fun k_ => spec_l01Hash.f k_ l0) (spec_l01Hash.v l0) := lim_is (fun k_ => spec_l01Hash.mono l0 k_)
theorem spec_l01Hash.lv0_eq (x0 : List Int) (x3 : List Int) (x4 : List Int) : spec_l01Hash.lv0 x0 x3 x4 = (if ((x4.length : Int) % 64) = 56 then (spec_l01Hash.lv1 x0 x3 x4 7) else (if x4.length < 140737488355328 then (spec_l01Hash.lv0 x0 x3 (x4 ++ [0])) else (none)) : Option (ByteArray)) := by
  refine LimIs.eq (spec_l01Hash.lv0_lim x0 x3 x4) ?_
  refine LimIs.step (fun k_ => (spec_l01Hash.mono_l k_).1 x0 x3 x4) ?_
  simp only [spec_l01Hash.l0]
  repeat' (with_reducible first | exact spec_l01Hash.lv0_lim _ _ _ | exact spec_l01Hash.lv1_lim _ _ _ _ | exact LimIs.const _ | refine LimIs.ite ?_ ?_ | refine LimIs.bind ?_ (fun _ => ?_))
theorem spec_l01Hash.lv1_eq (x0 : List Int) (x3 : List Int) (x4 : List Int) (x5 : Int) : spec_l01Hash.lv1 x0 x3 x4 x5 = (if x5 ≥ 0 then (if 0 ≤ (IntKind.u64.wrap (wrap64 (8 * x5))) then (if x4.length < 140737488355328 then (spec_l01Hash.lv1 x0 x3 (x4 ++ [(shr .i64 (wrap64 (8 * (x0.length : Int))) (IntKind.u64.wrap (wrap64 (8 * x5)))) % 256]) (wrap64 (x5 - 1))) else (none)) else (none)) else ((spec_l01Consts.v).bind fun t217 => (spec_l01Hash.lv2 x3 x4 t217 0)) : Option (ByteArray)) := by
  refine LimIs.eq (spec_l01Hash.lv1_lim x0 x3 x4 x5) ?_
  refine LimIs.step (fun k_ => (spec_l01Hash.mono_l k_).2.1 x0 x3 x4 x5) ?_
  simp only [spec_l01Hash.l1]
  repeat' (with_reducible first | exact spec_l01Consts.v_lim | exact spec_l01Hash.lv1_lim _ _ _ _ | exact spec_l01Hash.lv2_lim _ _ _ _ | exact LimIs.const _ | refine LimIs.ite ?_ ?_ | refine LimIs.bind ?_ (fun _ => ?_))
theorem spec_l01Hash.lv2_eq (x3 : List Int) (x4 : List Int) (x6 : List Int) (x7 : Int) : spec_l01Hash.lv2 x3 x4 x6 x7 = (if x7 < (x4.length : Int) then (if 0 ≤ x7 then (if x7 ≤ (wrap64 (x7 + 64)) then (if (wrap64 (x7 + 64)) ≤ (x4.length : Int) then ((spec_l01Block.v x3 ((x4.take ((wrap64 (x7 + 64)) : Int).toNat).drop (x7 : Int).toNat) x6).bind fun t224 => (spec_l01Hash.lv2 t224 x4 x6 (wrap64 (x7 + 64)))) else (none)) else (none)) else (none)) else (spec_l01Hash.lv3 x3 (([] : List Int)) 0) : Option (ByteArray)) := by
  refine LimIs.eq (spec_l01Hash.lv2_lim x3 x4 x6 x7) ?_
  refine LimIs.step (fun k_ => (spec_l01Hash.mono_l k_).2.2.1 x3 x4 x6 x7) ?_
  simp only [spec_l01Hash.l2]
  repeat' (with_reducible first | exact spec_l01Block.v_lim _ _ _ | exact spec_l01Hash.lv2_lim _ _ _ _ | exact spec_l01Hash.lv3_lim _ _ _ | exact LimIs.const _ | refine LimIs.ite ?_ ?_ | refine LimIs.bind ?_ (fun _ => ?_))
theorem spec_l01Hash.lv3_eq (x3 : List Int) (x8 : List Int) (x9 : Int) : spec_l01Hash.lv3 x3 x8 x9 = (if x9 < 8 then (if 0 ≤ x9 then (if x9 < (x3.length : Int) then ((some (([((rd x3 x9) / 16777216) % 256, ((rd x3 x9) / 65536) % 256, ((rd x3 x9) / 256) % 256, (rd x3 x9) % 256] : List Int) : List Int)).bind fun y232 => (if x8.length + y232.length < 140737488355328 then (spec_l01Hash.lv3 x3 (x8 ++ y232) (wrap64 (x9 + 1))) else (none))) else (none)) else (none)) else (some (strOfNums x8)) : Option (ByteArray)) := by
  refine LimIs.eq (spec_l01Hash.lv3_lim x3 x8 x9) ?_
  refine LimIs.step (fun k_ => (spec_l01Hash.mono_l k_).2.2.2 x3 x8 x9) ?_
  simp only [spec_l01Hash.l3]
  repeat' (with_reducible first | exact spec_l01Hash.lv3_lim _ _ _ | exact LimIs.const _ | refine LimIs.ite ?_ ?_ | refine LimIs.bind ?_ (fun _ => ?_))
theorem spec_l01Hash.v_eq (l0 : List Int) : spec_l01Hash.v l0 = ((some (([] : List Int) : List Int)).bind fun y202 => (if y202.length + l0.length < 140737488355328 then ((some (y202 ++ l0 : List Int)).bind fun y205 => (if y205.length < 140737488355328 then (spec_l01Hash.lv0 l0 (([1779033703, 3144134277, 1013904242, 2773480762, 1359893119, 2600822924, 528734635, 1541459225] : List Int)) (y205 ++ [128])) else (none))) else (none)) : Option (ByteArray)) := by
  refine LimIs.eq (spec_l01Hash.v_lim l0) ?_
  simp only [spec_l01Hash.f]
  repeat' (with_reducible first | exact spec_l01Hash.lv0_lim _ _ _ | exact LimIs.const _ | refine LimIs.ite ?_ ?_ | refine LimIs.bind ?_ (fun _ => ?_))
def spec_l00Src_chance.f (s0_0 : List Int) (s0_1 : Int) (s0_2 : Int) (a1 : Int) : Option (Bool × Int × Int) := (spec_l00Src_next.f s0_0 s0_1 s0_2 a1).bind fun bt238 => (some ((bt238.1 == (wrap64 (a1 - 1))), bt238.2.1, bt238.2.2))
def spec_l00Src_chance.v (s0_0 : List Int) (s0_1 : Int) (s0_2 : Int) (a1 : Int) : Option (Bool × Int × Int) := spec_l00Src_chance.f s0_0 s0_1 s0_2 a1
theorem spec_l00Src_chance.v_lim (s0_0 : List Int) (s0_1 : Int) (s0_2 : Int) (a1 : Int) : LimIs (fun _ => spec_l00Src_chance.f s0_0 s0_1 s0_2 a1) (spec_l00Src_chance.v s0_0 s0_1 s0_2 a1) := LimIs.const _
theorem spec_l00Src_chance.v_eq (s0_0 : List Int) (s0_1 : Int) (s0_2 : Int) (a1 : Int) : spec_l00Src_chance.v s0_0 s0_1 s0_2 a1 = ((spec_l00Src_next.v s0_0 s0_1 s0_2 a1).bind fun bt238 => (some ((bt238.1 == (wrap64 (a1 - 1))), bt238.2.1, bt238.2.2)) : Option (Bool × Int × Int)) := rfl
def spec_l00Src_batch.l0 : Nat → Int → List Int → Int → Int → Bool → Int → Int → Int → Int → ByteArray → List (S70) → Option (Bool × Int × Int × Int × Int × ByteArray × (List (S70)) × Int × Int)
  | 0, _, _, _, _, _, _, _, _, _, _, _ => none
  | k + 1, x4, x1000, x1001, x1002, x259000, x259001, x259002, x259003, x259004, x259005, x259006 => if x4 < 4 then ((spec_l00Src_chance.f x1000 x1001 x1002 4).bind fun bt259 => (if bt259.1 = true then (spec_l00Src_batch.l0 k (wrap64 (x4 + 1)) x1000 bt259.2.1 bt259.2.2 x259000 x259001 x259002 x259003 x259004 x259005 x259006) else ((spec_l00Src_next.f x1000 bt259.2.1 bt259.2.2 100).bind fun bt262 => ((spec_l01Hash.f k (([(x4) % 256] : List Int))).bind fun t268 => (if 0 ≤ 8 then (if 8 ≤ (t268.size : Int) then (if x259006.length < 4398046511104 then (spec_l00Src_batch.l0 k (wrap64 (x4 + 1)) x1000 bt262.2.1 bt262.2.2 x259000 x259001 x259002 x259003 x259004 x259005 (x259006 ++ [(⟨x4, bt262.1, t268.extract 0 8⟩ : S70)])) else (none)) else (none)) else (none)))))) else (some (x259000, x259001, x259002, x259003, x259004, x259005, x259006, x1001, x1002))
def spec_l00Src_batch.f (k : Nat) (s0_0 : List Int) (s0_1 : Int) (s0_2 : Int) : Option (Bool × Int × Int × Int × Int × ByteArray × (List (S70)) × Int × Int) := (spec_l00Src_chance.f s0_0 s0_1 s0_2 6).bind fun bt242 => (if bt242.1 = true then (some (true, 0, 0, 0, 0, (⟨#[]⟩ : ByteArray), (([] : List (S70))), bt242.2.1, bt242.2.2)) else ((spec_l00Src_request.f s0_0 bt242.2.1 bt242.2.2).bind fun bt248 => (spec_l00Src_batch.l0 k 0 s0_0 bt248.2.2.2.2.2.1 bt248.2.2.2.2.2.2 false bt248.1 bt248.2.1 bt248.2.2.1 bt248.2.2.2.1 bt248.2.2.2.2.1 (([] : List (S70))))))
theorem spec_l00Src_batch.mono_l : ∀ k, (∀ y0 y1 y2 y3 y4 y5 y6 y7 y8 y9 y10, LeO (spec_l00Src_batch.l0 k y0 y1 y2 y3 y4 y5 y6 y7 y8 y9 y10) (spec_l00Src_batch.l0 (k + 1) y0 y1 y2 y3 y4 y5 y6 y7 y8 y9 y10))
  | 0 => fun _ _ _ _ _ _ _ _ _ _ _ r h => by simp [spec_l00Src_batch.l0] at h
  | k + 1 => by
    have ih0 := spec_l00Src_batch.mono_l k
    · intro y0 y1 y2 y3 y4 y5 y6 y7 y8 y9 y10
      unfold spec_l00Src_batch.l0
      repeat' first
      | (with_reducible exact ih0 _ _ _ _ _ _ _ _ _ _ _)
      | (with_reducible exact spec_l01Hash.mono _ _)
      | (with_reducible exact LeO.refl _)
      | (with_reducible exact LeO.none _)
      | (with_reducible refine LeO.ite ?_ ?_)
      | (with_reducible refine LeO.bind ?_ (fun _ => ?_))
      | exact ih0 _ _ _ _ _ _ _ _ _ _ _
      | exact spec_l01Hash.mono _ _
      | exact LeO.none _
      | refine LeO.ite ?_ ?_
      | refine LeO.bind ?_ (fun _ => ?_)
theorem spec_l00Src_batch.mono : ∀ a0 a1 a2 k, LeO (spec_l00Src_batch.f k a0 a1 a2) (spec_l00Src_batch.f (k + 1) a0 a1 a2) := by
  intro a0 a1 a2 k
  have ih0 := spec_l00Src_batch.mono_l k
  unfold spec_l00Src_batch.f
  repeat' first
      | (with_reducible exact ih0 _ _ _ _ _ _ _ _ _ _ _)
      | (with_reducible exact spec_l01Hash.mono _ _)
      | (with_reducible exact LeO.refl _)
      | (with_reducible exact LeO.none _)
      | (with_reducible refine LeO.ite ?_ ?_)
      | (with_reducible refine LeO.bind ?_ (fun _ => ?_))
      | exact ih0 _ _ _ _ _ _ _ _ _ _ _
      | exact spec_l01Hash.mono _ _
      | exact LeO.none _
      | refine LeO.ite ?_ ?_
      | refine LeO.bind ?_ (fun _ => ?_)
noncomputable def spec_l00Src_batch.lv0 (x4 : Int) (x1000 : List Int) (x1001 : Int) (x1002 : Int) (x259000 : Bool) (x259001 : Int) (x259002 : Int) (x259003 : Int) (x259004 : Int) (x259005 : ByteArray) (x259006 : List (S70)) : Option (Bool × Int × Int × Int × Int × ByteArray × (List (S70)) × Int × Int) := lim (fun k_ => spec_l00Src_batch.l0 k_ x4 x1000 x1001 x1002 x259000 x259001 x259002 x259003 x259004 x259005 x259006)
noncomputable def spec_l00Src_batch.v (s0_0 : List Int) (s0_1 : Int) (s0_2 : Int) : Option (Bool × Int × Int × Int × Int × ByteArray × (List (S70)) × Int × Int) := lim (fun k_ => spec_l00Src_batch.f k_ s0_0 s0_1 s0_2)
theorem spec_l00Src_batch.lv0_lim (x4 : Int) (x1000 : List Int) (x1001 : Int) (x1002 : Int) (x259000 : Bool) (x259001 : Int) (x259002 : Int) (x259003 : Int) (x259004 : Int) (x259005 : ByteArray) (x259006 : List (S70)) : LimIs (fun k_ => spec_l00Src_batch.l0 k_ x4 x1000 x1001 x1002 x259000 x259001 x259002 x259003 x259004 x259005 x259006) (spec_l00Src_batch.lv0 x4 x1000 x1001 x1002 x259000 x259001 x259002 x259003 x259004 x259005 x259006) := lim_is (fun k_ => (spec_l00Src_batch.mono_l k_) x4 x1000 x1001 x1002 x259000 x259001 x259002 x259003 x259004 x259005 x259006)
theorem spec_l00Src_batch.v_lim (s0_0 : List Int) (s0_1 : Int) (s0_2 : Int) : LimIs (fun k_ => spec_l00Src_batch.f k_ s0_0 s0_1 s0_2) (spec_l00Src_batch.v s0_0 s0_1 s0_2) := lim_is (fun k_ => spec_l00Src_batch.mono s0_0 s0_1 s0_2 k_)
theorem spec_l00Src_batch.lv0_eq (x4 : Int) (x1000 : List Int) (x1001 : Int) (x1002 : Int) (x259000 : Bool) (x259001 : Int) (x259002 : Int) (x259003 : Int) (x259004 : Int) (x259005 : ByteArray) (x259006 : List (S70)) : spec_l00Src_batch.lv0 x4 x1000 x1001 x1002 x259000 x259001 x259002 x259003 x259004 x259005 x259006 = (if x4 < 4 then ((spec_l00Src_chance.v x1000 x1001 x1002 4).bind fun bt259 => (if bt259.1 = true then (spec_l00Src_batch.lv0 (wrap64 (x4 + 1)) x1000 bt259.2.1 bt259.2.2 x259000 x259001 x259002 x259003 x259004 x259005 x259006) else ((spec_l00Src_next.v x1000 bt259.2.1 bt259.2.2 100).bind fun bt262 => ((spec_l01Hash.v (([(x4) % 256] : List Int))).bind fun t268 => (if 0 ≤ 8 then (if 8 ≤ (t268.size : Int) then (if x259006.length < 4398046511104 then (spec_l00Src_batch.lv0 (wrap64 (x4 + 1)) x1000 bt262.2.1 bt262.2.2 x259000 x259001 x259002 x259003 x259004 x259005 (x259006 ++ [(⟨x4, bt262.1, t268.extract 0 8⟩ : S70)])) else (none)) else (none)) else (none)))))) else (some (x259000, x259001, x259002, x259003, x259004, x259005, x259006, x1001, x1002)) : Option (Bool × Int × Int × Int × Int × ByteArray × (List (S70)) × Int × Int)) := by
  refine LimIs.eq (spec_l00Src_batch.lv0_lim x4 x1000 x1001 x1002 x259000 x259001 x259002 x259003 x259004 x259005 x259006) ?_
  refine LimIs.step (fun k_ => (spec_l00Src_batch.mono_l k_) x4 x1000 x1001 x1002 x259000 x259001 x259002 x259003 x259004 x259005 x259006) ?_
  simp only [spec_l00Src_batch.l0]
  repeat' (with_reducible first | exact spec_l00Src_batch.lv0_lim _ _ _ _ _ _ _ _ _ _ _ | exact spec_l00Src_chance.v_lim _ _ _ _ | exact spec_l00Src_next.v_lim _ _ _ _ | exact spec_l01Hash.v_lim _ | exact LimIs.const _ | refine LimIs.ite ?_ ?_ | refine LimIs.bind ?_ (fun _ => ?_))
theorem spec_l00Src_batch.v_eq (s0_0 : List Int) (s0_1 : Int) (s0_2 : Int) : spec_l00Src_batch.v s0_0 s0_1 s0_2 = ((spec_l00Src_chance.v s0_0 s0_1 s0_2 6).bind fun bt242 => (if bt242.1 = true then (some (true, 0, 0, 0, 0, (⟨#[]⟩ : ByteArray), (([] : List (S70))), bt242.2.1, bt242.2.2)) else ((spec_l00Src_request.v s0_0 bt242.2.1 bt242.2.2).bind fun bt248 => (spec_l00Src_batch.lv0 0 s0_0 bt248.2.2.2.2.2.1 bt248.2.2.2.2.2.2 false bt248.1 bt248.2.1 bt248.2.2.1 bt248.2.2.2.1 bt248.2.2.2.2.1 (([] : List (S70)))))) : Option (Bool × Int × Int × Int × Int × ByteArray × (List (S70)) × Int × Int)) := by
  refine LimIs.eq (spec_l00Src_batch.v_lim s0_0 s0_1 s0_2) ?_
  simp only [spec_l00Src_batch.f]
  repeat' (with_reducible first | exact spec_l00Src_batch.lv0_lim _ _ _ _ _ _ _ _ _ _ _ | exact spec_l00Src_chance.v_lim _ _ _ _ | exact spec_l00Src_request.v_lim _ _ _ | exact LimIs.const _ | refine LimIs.ite ?_ ?_ | refine LimIs.bind ?_ (fun _ => ?_))
def spec_l02Number.l0 : Nat → Int → List Int → Int → Option (List Int)
  | 0, _, _, _ => none
  | k + 1, x0, x5, x6 => if x6 ≥ 0 then (if 0 ≤ (IntKind.u64.wrap (wrap64 (8 * x6))) then (if x5.length < 140737488355328 then (spec_l02Number.l0 k x0 (x5 ++ [(shr .i64 x0 (IntKind.u64.wrap (wrap64 (8 * x6)))) % 256]) (wrap64 (x6 - 1))) else (none)) else (none)) else (some x5)
def spec_l02Number.f (k : Nat) (a0 : Int) (a1 : Int) : Option (List Int) := spec_l02Number.l0 k a0 (([] : List Int)) (wrap64 (a1 - 1))
theorem spec_l02Number.mono_l : ∀ k, (∀ y0 y1 y2, LeO (spec_l02Number.l0 k y0 y1 y2) (spec_l02Number.l0 (k + 1) y0 y1 y2))
  | 0 => fun _ _ _ r h => by simp [spec_l02Number.l0] at h
  | k + 1 => by
    have ih0 := spec_l02Number.mono_l k
    · intro y0 y1 y2
      unfold spec_l02Number.l0
      repeat' first
      | (with_reducible exact ih0 _ _ _)
      | (with_reducible exact LeO.refl _)
      | (with_reducible exact LeO.none _)
      | (with_reducible refine LeO.ite ?_ ?_)
      | (with_reducible refine LeO.bind ?_ (fun _ => ?_))
      | exact ih0 _ _ _
      | exact LeO.none _
      | refine LeO.ite ?_ ?_
      | refine LeO.bind ?_ (fun _ => ?_)
theorem spec_l02Number.mono : ∀ a0 a1 k, LeO (spec_l02Number.f k a0 a1) (spec_l02Number.f (k + 1) a0 a1) := by
  intro a0 a1 k
  have ih0 := spec_l02Number.mono_l k
  unfold spec_l02Number.f
  repeat' first
      | (with_reducible exact ih0 _ _ _)
      | (with_reducible exact LeO.refl _)
      | (with_reducible exact LeO.none _)
      | (with_reducible refine LeO.ite ?_ ?_)
      | (with_reducible refine LeO.bind ?_ (fun _ => ?_))
      | exact ih0 _ _ _
      | exact LeO.none _
      | refine LeO.ite ?_ ?_
      | refine LeO.bind ?_ (fun _ => ?_)
noncomputable def spec_l02Number.lv0 (x0 : Int) (x5 : List Int) (x6 : Int) : Option (List Int) := lim (fun k_ => spec_l02Number.l0 k_ x0 x5 x6)
noncomputable def spec_l02Number.v (a0 : Int) (a1 : Int) : Option (List Int) := lim (fun k_ => spec_l02Number.f k_ a0 a1)
theorem spec_l02Number.lv0_lim (x0 : Int) (x5 : List Int) (x6 : Int) : LimIs (fun k_ => spec_l02Number.l0 k_ x0 x5 x6) (spec_l02Number.lv0 x0 x5 x6) := lim_is (fun k_ => (spec_l02Number.mono_l k_) x0 x5 x6)
theorem spec_l02Number.v_lim (a0 : Int) (a1 : Int) : LimIs (fun k_ => spec_l02Number.f k_ a0 a1) (spec_l02Number.v a0 a1) := lim_is (fun k_ => spec_l02Number.mono a0 a1 k_)
theorem spec_l02Number.lv0_eq (x0 : Int) (x5 : List Int) (x6 : Int) : spec_l02Number.lv0 x0 x5 x6 = (if x6 ≥ 0 then (if 0 ≤ (IntKind.u64.wrap (wrap64 (8 * x6))) then (if x5.length < 140737488355328 then (spec_l02Number.lv0 x0 (x5 ++ [(shr .i64 x0 (IntKind.u64.wrap (wrap64 (8 * x6)))) % 256]) (wrap64 (x6 - 1))) else (none)) else (none)) else (some x5) : Option (List Int)) := by
  refine LimIs.eq (spec_l02Number.lv0_lim x0 x5 x6) ?_
  refine LimIs.step (fun k_ => (spec_l02Number.mono_l k_) x0 x5 x6) ?_
  simp only [spec_l02Number.l0]
  repeat' (with_reducible first | exact spec_l02Number.lv0_lim _ _ _ | exact LimIs.const _ | refine LimIs.ite ?_ ?_ | refine LimIs.bind ?_ (fun _ => ?_))
theorem spec_l02Number.v_eq (a0 : Int) (a1 : Int) : spec_l02Number.v a0 a1 = (spec_l02Number.lv0 a0 (([] : List Int)) (wrap64 (a1 - 1)) : Option (List Int)) := by
  refine LimIs.eq (spec_l02Number.v_lim a0 a1) ?_
  simp only [spec_l02Number.f]
  repeat' (with_reducible first | exact spec_l02Number.lv0_lim _ _ _ | exact LimIs.const _ | refine LimIs.ite ?_ ?_ | refine LimIs.bind ?_ (fun _ => ?_))
def spec_l02Request.f (k : Nat) (a0_0 : Int) (a0_1 : Int) (a0_2 : Int) (a0_3 : Int) (a0_4 : ByteArray) : Option (List Int) := (some (([(a0_0) % 256] : List Int) : List Int)).bind fun y279 => ((spec_l02Number.f k a0_1 2).bind fun t282 => (if y279.length + t282.length < 140737488355328 then ((some (y279 ++ t282 : List Int)).bind fun y285 => (if y285.length < 140737488355328 then ((some (y285 ++ [(a0_2) % 256] : List Int)).bind fun y288 => ((spec_l02Number.f k a0_3 2).bind fun t291 => (if y288.length + t291.length < 140737488355328 then ((some (y288 ++ t291 : List Int)).bind fun y294 => (if y294.length < 140737488355328 then ((some (y294 ++ [((a0_4.size : Int)) % 256] : List Int)).bind fun y297 => (if y297.length + a0_4.size < 140737488355328 then (some (y297 ++ bytesOf a0_4)) else (none))) else (none))) else (none)))) else (none))) else (none)))
theorem spec_l02Request.mono : ∀ a0 a1 a2 a3 a4 k, LeO (spec_l02Request.f k a0 a1 a2 a3 a4) (spec_l02Request.f (k + 1) a0 a1 a2 a3 a4) := by
  intro a0 a1 a2 a3 a4 k
  unfold spec_l02Request.f
  repeat' first
      | (with_reducible exact spec_l02Number.mono _ _ _)
      | (with_reducible exact LeO.refl _)
      | (with_reducible exact LeO.none _)
      | (with_reducible refine LeO.ite ?_ ?_)
      | (with_reducible refine LeO.bind ?_ (fun _ => ?_))
      | exact spec_l02Number.mono _ _ _
      | exact LeO.none _
      | refine LeO.ite ?_ ?_
      | refine LeO.bind ?_ (fun _ => ?_)
noncomputable def spec_l02Request.v (a0_0 : Int) (a0_1 : Int) (a0_2 : Int) (a0_3 : Int) (a0_4 : ByteArray) : Option (List Int) := lim (fun k_ => spec_l02Request.f k_ a0_0 a0_1 a0_2 a0_3 a0_4)
theorem spec_l02Request.v_lim (a0_0 : Int) (a0_1 : Int) (a0_2 : Int) (a0_3 : Int) (a0_4 : ByteArray) : LimIs (fun k_ => spec_l02Request.f k_ a0_0 a0_1 a0_2 a0_3 a0_4) (spec_l02Request.v a0_0 a0_1 a0_2 a0_3 a0_4) := lim_is (fun k_ => spec_l02Request.mono a0_0 a0_1 a0_2 a0_3 a0_4 k_)
theorem spec_l02Request.v_eq (a0_0 : Int) (a0_1 : Int) (a0_2 : Int) (a0_3 : Int) (a0_4 : ByteArray) : spec_l02Request.v a0_0 a0_1 a0_2 a0_3 a0_4 = ((some (([(a0_0) % 256] : List Int) : List Int)).bind fun y279 => ((spec_l02Number.v a0_1 2).bind fun t282 => (if y279.length + t282.length < 140737488355328 then ((some (y279 ++ t282 : List Int)).bind fun y285 => (if y285.length < 140737488355328 then ((some (y285 ++ [(a0_2) % 256] : List Int)).bind fun y288 => ((spec_l02Number.v a0_3 2).bind fun t291 => (if y288.length + t291.length < 140737488355328 then ((some (y288 ++ t291 : List Int)).bind fun y294 => (if y294.length < 140737488355328 then ((some (y294 ++ [((a0_4.size : Int)) % 256] : List Int)).bind fun y297 => (if y297.length + a0_4.size < 140737488355328 then (some (y297 ++ bytesOf a0_4)) else (none))) else (none))) else (none)))) else (none))) else (none))) : Option (List Int)) := by
  refine LimIs.eq (spec_l02Request.v_lim a0_0 a0_1 a0_2 a0_3 a0_4) ?_
  simp only [spec_l02Request.f]
  repeat' (with_reducible first | exact spec_l02Number.v_lim _ _ | exact LimIs.const _ | refine LimIs.ite ?_ ?_ | refine LimIs.bind ?_ (fun _ => ?_))
def spec_l02Batch.l0 : Nat → List Int → Int → Bool → Int → Int → Int → Int → ByteArray → List (S70) → Option (List Int)
  | 0, _, _, _, _, _, _, _, _, _ => none
  | k + 1, x3, x4, x304000, x304001, x304002, x304003, x304004, x304005, x304006 => if x4 < (x304006.length : Int) then (if 0 ≤ x4 then (if x3.length < 140737488355328 then ((some (x3 ++ [((rd_T70 x304006 x4).f0) % 256] : List Int)).bind fun y311 => ((spec_l02Number.f k ((rd_T70 x304006 x4).f1) 4).bind fun t315 => (if y311.length + t315.length < 140737488355328 then ((some (y311 ++ t315 : List Int)).bind fun y318 => (if y318.length + ((rd_T70 x304006 x4).f2).size < 140737488355328 then (spec_l02Batch.l0 k (y318 ++ bytesOf ((rd_T70 x304006 x4).f2)) (wrap64 (x4 + 1)) x304000 x304001 x304002 x304003 x304004 x304005 x304006) else (none))) else (none)))) else (none)) else (none)) else ((spec_l02Request.f k x304001 x304002 x304003 x304004 x304005).bind fun t325 => (if x3.length + t325.length < 140737488355328 then (some (x3 ++ t325)) else (none)))
def spec_l02Batch.f (k : Nat) (a0_0 : Bool) (a0_1 : Int) (a0_2 : Int) (a0_3 : Int) (a0_4 : Int) (a0_5 : ByteArray) (l0_6 : List (S70)) : Option (List Int) := if a0_0 = true then (some (([0] : List Int))) else (spec_l02Batch.l0 k (([(wrap64 (1 + (l0_6.length : Int))) % 256] : List Int)) 0 a0_0 a0_1 a0_2 a0_3 a0_4 a0_5 l0_6)
theorem spec_l02Batch.mono_l : ∀ k, (∀ y0 y1 y2 y3 y4 y5 y6 y7 y8, LeO (spec_l02Batch.l0 k y0 y1 y2 y3 y4 y5 y6 y7 y8) (spec_l02Batch.l0 (k + 1) y0 y1 y2 y3 y4 y5 y6 y7 y8))
  | 0 => fun _ _ _ _ _ _ _ _ _ r h => by simp [spec_l02Batch.l0] at h
  | k + 1 => by
    have ih0 := spec_l02Batch.mono_l k
    · intro y0 y1 y2 y3 y4 y5 y6 y7 y8
      unfold spec_l02Batch.l0
      repeat' first
      | (with_reducible exact ih0 _ _ _ _ _ _ _ _ _)
      | (with_reducible exact spec_l02Number.mono _ _ _)
      | (with_reducible exact spec_l02Request.mono _ _ _ _ _ _)
      | (with_reducible exact LeO.refl _)
      | (with_reducible exact LeO.none _)
      | (with_reducible refine LeO.ite ?_ ?_)
      | (with_reducible refine LeO.bind ?_ (fun _ => ?_))
      | exact ih0 _ _ _ _ _ _ _ _ _
      | exact spec_l02Number.mono _ _ _
      | exact spec_l02Request.mono _ _ _ _ _ _
      | exact LeO.none _
      | refine LeO.ite ?_ ?_
      | refine LeO.bind ?_ (fun _ => ?_)
theorem spec_l02Batch.mono : ∀ a0 a1 a2 a3 a4 a5 a6 k, LeO (spec_l02Batch.f k a0 a1 a2 a3 a4 a5 a6) (spec_l02Batch.f (k + 1) a0 a1 a2 a3 a4 a5 a6) := by
  intro a0 a1 a2 a3 a4 a5 a6 k
  have ih0 := spec_l02Batch.mono_l k
  unfold spec_l02Batch.f
  repeat' first
      | (with_reducible exact ih0 _ _ _ _ _ _ _ _ _)
      | (with_reducible exact spec_l02Number.mono _ _ _)
      | (with_reducible exact spec_l02Request.mono _ _ _ _ _ _)
      | (with_reducible exact LeO.refl _)
      | (with_reducible exact LeO.none _)
      | (with_reducible refine LeO.ite ?_ ?_)
      | (with_reducible refine LeO.bind ?_ (fun _ => ?_))
      | exact ih0 _ _ _ _ _ _ _ _ _
      | exact spec_l02Number.mono _ _ _
      | exact spec_l02Request.mono _ _ _ _ _ _
      | exact LeO.none _
      | refine LeO.ite ?_ ?_
      | refine LeO.bind ?_ (fun _ => ?_)
noncomputable def spec_l02Batch.lv0 (x3 : List Int) (x4 : Int) (x304000 : Bool) (x304001 : Int) (x304002 : Int) (x304003 : Int) (x304004 : Int) (x304005 : ByteArray) (x304006 : List (S70)) : Option (List Int) := lim (fun k_ => spec_l02Batch.l0 k_ x3 x4 x304000 x304001 x304002 x304003 x304004 x304005 x304006)
noncomputable def spec_l02Batch.v (a0_0 : Bool) (a0_1 : Int) (a0_2 : Int) (a0_3 : Int) (a0_4 : Int) (a0_5 : ByteArray) (l0_6 : List (S70)) : Option (List Int) := lim (fun k_ => spec_l02Batch.f k_ a0_0 a0_1 a0_2 a0_3 a0_4 a0_5 l0_6)
theorem spec_l02Batch.lv0_lim (x3 : List Int) (x4 : Int) (x304000 : Bool) (x304001 : Int) (x304002 : Int) (x304003 : Int) (x304004 : Int) (x304005 : ByteArray) (x304006 : List (S70)) : LimIs (fun k_ => spec_l02Batch.l0 k_ x3 x4 x304000 x304001 x304002 x304003 x304004 x304005 x304006) (spec_l02Batch.lv0 x3 x4 x304000 x304001 x304002 x304003 x304004 x304005 x304006) := lim_is (fun k_ => (spec_l02Batch.mono_l k_) x3 x4 x304000 x304001 x304002 x304003 x304004 x304005 x304006)
theorem spec_l02Batch.v_lim (a0_0 : Bool) (a0_1 : Int) (a0_2 : Int) (a0_3 : Int) (a0_4 : Int) (a0_5 : ByteArray) (l0_6 : List (S70)) : LimIs (fun k_ => spec_l02Batch.f k_ a0_0 a0_1 a0_2 a0_3 a0_4 a0_5 l0_6) (spec_l02Batch.v a0_0 a0_1 a0_2 a0_3 a0_4 a0_5 l0_6) := lim_is (fun k_ => spec_l02Batch.mono a0_0 a0_1 a0_2 a0_3 a0_4 a0_5 l0_6 k_)
theorem spec_l02Batch.lv0_eq (x3 : List Int) (x4 : Int) (x304000 : Bool) (x304001 : Int) (x304002 : Int) (x304003 : Int) (x304004 : Int) (x304005 : ByteArray) (x304006 : List (S70)) : spec_l02Batch.lv0 x3 x4 x304000 x304001 x304002 x304003 x304004 x304005 x304006 = (if x4 < (x304006.length : Int) then (if 0 ≤ x4 then (if x3.length < 140737488355328 then ((some (x3 ++ [((rd_T70 x304006 x4).f0) % 256] : List Int)).bind fun y311 => ((spec_l02Number.v ((rd_T70 x304006 x4).f1) 4).bind fun t315 => (if y311.length + t315.length < 140737488355328 then ((some (y311 ++ t315 : List Int)).bind fun y318 => (if y318.length + ((rd_T70 x304006 x4).f2).size < 140737488355328 then (spec_l02Batch.lv0 (y318 ++ bytesOf ((rd_T70 x304006 x4).f2)) (wrap64 (x4 + 1)) x304000 x304001 x304002 x304003 x304004 x304005 x304006) else (none))) else (none)))) else (none)) else (none)) else ((spec_l02Request.v x304001 x304002 x304003 x304004 x304005).bind fun t325 => (if x3.length + t325.length < 140737488355328 then (some (x3 ++ t325)) else (none))) : Option (List Int)) := by
  refine LimIs.eq (spec_l02Batch.lv0_lim x3 x4 x304000 x304001 x304002 x304003 x304004 x304005 x304006) ?_
  refine LimIs.step (fun k_ => (spec_l02Batch.mono_l k_) x3 x4 x304000 x304001 x304002 x304003 x304004 x304005 x304006) ?_
  simp only [spec_l02Batch.l0]
  repeat' (with_reducible first | exact spec_l02Batch.lv0_lim _ _ _ _ _ _ _ _ _ | exact spec_l02Number.v_lim _ _ | exact spec_l02Request.v_lim _ _ _ _ _ | exact LimIs.const _ | refine LimIs.ite ?_ ?_ | refine LimIs.bind ?_ (fun _ => ?_))
theorem spec_l02Batch.v_eq (a0_0 : Bool) (a0_1 : Int) (a0_2 : Int) (a0_3 : Int) (a0_4 : Int) (a0_5 : ByteArray) (l0_6 : List (S70)) : spec_l02Batch.v a0_0 a0_1 a0_2 a0_3 a0_4 a0_5 l0_6 = (if a0_0 = true then (some (([0] : List Int))) else (spec_l02Batch.lv0 (([(wrap64 (1 + (l0_6.length : Int))) % 256] : List Int)) 0 a0_0 a0_1 a0_2 a0_3 a0_4 a0_5 l0_6) : Option (List Int)) := by
  refine LimIs.eq (spec_l02Batch.v_lim a0_0 a0_1 a0_2 a0_3 a0_4 a0_5 l0_6) ?_
  simp only [spec_l02Batch.f]
  repeat' (with_reducible first | exact spec_l02Batch.lv0_lim _ _ _ _ _ _ _ _ _ | exact LimIs.const _ | refine LimIs.ite ?_ ?_ | refine LimIs.bind ?_ (fun _ => ?_))
def spec_l02List.l0 : Nat → List ByteArray → List Int → Int → Option (List Int)
  | 0, _, _, _ => none
  | k + 1, x0, x3, x4 => if x4 < (x0.length : Int) then (if 0 ≤ x4 then ((spec_l02Number.f k ((rdOf ByteArray.empty x0 x4).size : Int) 2).bind fun t335 => (if x3.length + t335.length < 140737488355328 then ((some (x3 ++ t335 : List Int)).bind fun y338 => (if y338.length + (rdOf ByteArray.empty x0 x4).size < 140737488355328 then (spec_l02List.l0 k x0 (y338 ++ bytesOf (rdOf ByteArray.empty x0 x4)) (wrap64 (x4 + 1))) else (none))) else (none))) else (none)) else (some x3)
def spec_l02List.f (k : Nat) (l0 : List ByteArray) : Option (List Int) := spec_l02List.l0 k l0 (([((l0.length : Int)) % 256] : List Int)) 0
theorem spec_l02List.mono_l : ∀ k, (∀ y0 y1 y2, LeO (spec_l02List.l0 k y0 y1 y2) (spec_l02List.l0 (k + 1) y0 y1 y2))
  | 0 => fun _ _ _ r h => by simp [spec_l02List.l0] at h
  | k + 1 => by
    have ih0 := spec_l02List.mono_l k
    · intro y0 y1 y2
      unfold spec_l02List.l0
      repeat' first
      | (with_reducible exact ih0 _ _ _)
      | (with_reducible exact spec_l02Number.mono _ _ _)
      | (with_reducible exact LeO.refl _)
      | (with_reducible exact LeO.none _)
      | (with_reducible refine LeO.ite ?_ ?_)
      | (with_reducible refine LeO.bind ?_ (fun _ => ?_))
      | exact ih0 _ _ _
      | exact spec_l02Number.mono _ _ _
      | exact LeO.none _
      | refine LeO.ite ?_ ?_
      | refine LeO.bind ?_ (fun _ => ?_)
theorem spec_l02List.mono : ∀ a0 k, LeO (spec_l02List.f k a0) (spec_l02List.f (k + 1) a0) := by
  intro a0 k
  have ih0 := spec_l02List.mono_l k
  unfold spec_l02List.f
  repeat' first
      | (with_reducible exact ih0 _ _ _)
      | (with_reducible exact spec_l02Number.mono _ _ _)
      | (with_reducible exact LeO.refl _)
      | (with_reducible exact LeO.none _)
      | (with_reducible refine LeO.ite ?_ ?_)
      | (with_reducible refine LeO.bind ?_ (fun _ => ?_))
      | exact ih0 _ _ _
      | exact spec_l02Number.mono _ _ _
      | exact LeO.none _
      | refine LeO.ite ?_ ?_
      | refine LeO.bind ?_ (fun _ => ?_)
noncomputable def spec_l02List.lv0 (x0 : List ByteArray) (x3 : List Int) (x4 : Int) : Option (List Int) := lim (fun k_ => spec_l02List.l0 k_ x0 x3 x4)
noncomputable def spec_l02List.v (l0 : List ByteArray) : Option (List Int) := lim (fun k_ => spec_l02List.f k_ l0)
theorem spec_l02List.lv0_lim (x0 : List ByteArray) (x3 : List Int) (x4 : Int) : LimIs (fun k_ => spec_l02List.l0 k_ x0 x3 x4) (spec_l02List.lv0 x0 x3 x4) := lim_is (fun k_ => (spec_l02List.mono_l k_) x0 x3 x4)
theorem spec_l02List.v_lim (l0 : List ByteArray) : LimIs (fun k_ => spec_l02List.f k_ l0) (spec_l02List.v l0) := lim_is (fun k_ => spec_l02List.mono l0 k_)
theorem spec_l02List.lv0_eq (x0 : List ByteArray) (x3 : List Int) (x4 : Int) : spec_l02List.lv0 x0 x3 x4 = (if x4 < (x0.length : Int) then (if 0 ≤ x4 then ((spec_l02Number.v ((rdOf ByteArray.empty x0 x4).size : Int) 2).bind fun t335 => (if x3.length + t335.length < 140737488355328 then ((some (x3 ++ t335 : List Int)).bind fun y338 => (if y338.length + (rdOf ByteArray.empty x0 x4).size < 140737488355328 then (spec_l02List.lv0 x0 (y338 ++ bytesOf (rdOf ByteArray.empty x0 x4)) (wrap64 (x4 + 1))) else (none))) else (none))) else (none)) else (some x3) : Option (List Int)) := by
  refine LimIs.eq (spec_l02List.lv0_lim x0 x3 x4) ?_
  refine LimIs.step (fun k_ => (spec_l02List.mono_l k_) x0 x3 x4) ?_
  simp only [spec_l02List.l0]
  repeat' (with_reducible first | exact spec_l02List.lv0_lim _ _ _ | exact spec_l02Number.v_lim _ _ | exact LimIs.const _ | refine LimIs.ite ?_ ?_ | refine LimIs.bind ?_ (fun _ => ?_))
theorem spec_l02List.v_eq (l0 : List ByteArray) : spec_l02List.v l0 = (spec_l02List.lv0 l0 (([((l0.length : Int)) % 256] : List Int)) 0 : Option (List Int)) := by
  refine LimIs.eq (spec_l02List.v_lim l0) ?_
  simp only [spec_l02List.f]
  repeat' (with_reducible first | exact spec_l02List.lv0_lim _ _ _ | exact LimIs.const _ | refine LimIs.ite ?_ ?_ | refine LimIs.bind ?_ (fun _ => ?_))
def spec_l00Src_message.j0 : Nat → List Int → Int → Int → Int → Int → Int → Int → ByteArray → ByteArray → ByteArray → Option (Int × Int × Int × Int × ByteArray × ByteArray × ByteArray × Int × Int)
  | 0, _, _, _, _, _, _, _, _, _, _ => none
  | k + 1, x1000, x1001, x1002, x363000, x363001, x363002, x363003, x363004, x363005, x363006 => if x363000 = 1 then ((spec_l00Src_batch.f k x1000 x1001 x1002).bind fun bt373 => ((spec_l02Batch.f k bt373.1 bt373.2.1 bt373.2.2.1 bt373.2.2.2.1 bt373.2.2.2.2.1 bt373.2.2.2.2.2.1 bt373.2.2.2.2.2.2.1).bind fun t384 => (if x363000 ≥ 4 then ((spec_l02List.f k (([(⟨#[111, 110, 101]⟩ : ByteArray), (⟨#[116, 119, 111]⟩ : ByteArray)] : List ByteArray))).bind fun t390 => (some (x363000, x363001, x363002, x363003, x363004, strOfNums t390, x363006, bt373.2.2.2.2.2.2.2.1, bt373.2.2.2.2.2.2.2.2))) else (some (x363000, x363001, x363002, x363003, x363004, strOfNums t384, x363006, bt373.2.2.2.2.2.2.2.1, bt373.2.2.2.2.2.2.2.2))))) else (if x363000 ≥ 4 then ((spec_l02List.f k (([(⟨#[111, 110, 101]⟩ : ByteArray), (⟨#[116, 119, 111]⟩ : ByteArray)] : List ByteArray))).bind fun t396 => (some (x363000, x363001, x363002, x363003, x363004, strOfNums t396, x363006, x1001, x1002))) else (some (x363000, x363001, x363002, x363003, x363004, x363005, x363006, x1001, x1002)))
def spec_l00Src_message.f (k : Nat) (s0_0 : List Int) (s0_1 : Int) (s0_2 : Int) : Option (Int × Int × Int × Int × ByteArray × ByteArray × ByteArray × Int × Int) := (spec_l00Src_next.f s0_0 s0_1 s0_2 5).bind fun bt346 => ((spec_l00Src_next.f s0_0 bt346.2.1 bt346.2.2 4).bind fun bt349 => ((spec_l00Src_next.f s0_0 bt349.2.1 bt349.2.2 4).bind fun bt352 => ((spec_l00Src_next.f s0_0 bt352.2.1 bt352.2.2 9).bind fun bt355 => ((spec_l01Hash.f k (([(bt355.1) % 256] : List Int))).bind fun t361 => (if 0 ≤ 8 then (if 8 ≤ (t361.size : Int) then (if (wrap64 (1 + bt346.1)) ≤ 3 then ((spec_l00Src_next.f s0_0 bt355.2.1 bt355.2.2 4).bind fun bt363 => ((spec_l00Src_next.f s0_0 bt363.2.1 bt363.2.2 4).bind fun bt366 => ((spec_l01Hash.f k (([(bt366.1) % 256] : List Int))).bind fun t372 => (spec_l00Src_message.j0 k s0_0 bt366.2.1 bt366.2.2 (wrap64 (1 + bt346.1)) bt349.1 (wrap64 (1 + bt363.1)) bt352.1 t372 (⟨#[]⟩ : ByteArray) (t361.extract 0 8))))) else (spec_l00Src_message.j0 k s0_0 bt355.2.1 bt355.2.2 (wrap64 (1 + bt346.1)) bt349.1 0 bt352.1 (⟨#[]⟩ : ByteArray) (⟨#[]⟩ : ByteArray) (t361.extract 0 8))) else (none)) else (none))))))
theorem spec_l00Src_message.mono_l : ∀ k, (∀ y0 y1 y2 y3 y4 y5 y6 y7 y8 y9, LeO (spec_l00Src_message.j0 k y0 y1 y2 y3 y4 y5 y6 y7 y8 y9) (spec_l00Src_message.j0 (k + 1) y0 y1 y2 y3 y4 y5 y6 y7 y8 y9))
  | 0 => fun _ _ _ _ _ _ _ _ _ _ r h => by simp [spec_l00Src_message.j0] at h
  | k + 1 => by
    have ih0 := spec_l00Src_message.mono_l k
    · intro y0 y1 y2 y3 y4 y5 y6 y7 y8 y9
      unfold spec_l00Src_message.j0
      repeat' first
      | (with_reducible exact ih0 _ _ _ _ _ _ _ _ _ _)
      | (with_reducible exact spec_l00Src_batch.mono _ _ _ _)
      | (with_reducible exact spec_l01Hash.mono _ _)
      | (with_reducible exact spec_l02Batch.mono _ _ _ _ _ _ _ _)
      | (with_reducible exact spec_l02List.mono _ _)
      | (with_reducible exact LeO.refl _)
      | (with_reducible exact LeO.none _)
      | (with_reducible refine LeO.ite ?_ ?_)
      | (with_reducible refine LeO.bind ?_ (fun _ => ?_))
      | exact ih0 _ _ _ _ _ _ _ _ _ _
      | exact spec_l00Src_batch.mono _ _ _ _
      | exact spec_l01Hash.mono _ _
      | exact spec_l02Batch.mono _ _ _ _ _ _ _ _
      | exact spec_l02List.mono _ _
      | exact LeO.none _
      | refine LeO.ite ?_ ?_
      | refine LeO.bind ?_ (fun _ => ?_)
theorem spec_l00Src_message.mono : ∀ a0 a1 a2 k, LeO (spec_l00Src_message.f k a0 a1 a2) (spec_l00Src_message.f (k + 1) a0 a1 a2) := by
  intro a0 a1 a2 k
  have ih0 := spec_l00Src_message.mono_l k
  unfold spec_l00Src_message.f
  repeat' first
      | (with_reducible exact ih0 _ _ _ _ _ _ _ _ _ _)
      | (with_reducible exact spec_l00Src_batch.mono _ _ _ _)
      | (with_reducible exact spec_l01Hash.mono _ _)
      | (with_reducible exact spec_l02Batch.mono _ _ _ _ _ _ _ _)
      | (with_reducible exact spec_l02List.mono _ _)
      | (with_reducible exact LeO.refl _)
      | (with_reducible exact LeO.none _)
      | (with_reducible refine LeO.ite ?_ ?_)
      | (with_reducible refine LeO.bind ?_ (fun _ => ?_))
      | exact ih0 _ _ _ _ _ _ _ _ _ _
      | exact spec_l00Src_batch.mono _ _ _ _
      | exact spec_l01Hash.mono _ _
      | exact spec_l02Batch.mono _ _ _ _ _ _ _ _
      | exact spec_l02List.mono _ _
      | exact LeO.none _
      | refine LeO.ite ?_ ?_
      | refine LeO.bind ?_ (fun _ => ?_)
noncomputable def spec_l00Src_message.jv0 (x1000 : List Int) (x1001 : Int) (x1002 : Int) (x363000 : Int) (x363001 : Int) (x363002 : Int) (x363003 : Int) (x363004 : ByteArray) (x363005 : ByteArray) (x363006 : ByteArray) : Option (Int × Int × Int × Int × ByteArray × ByteArray × ByteArray × Int × Int) := lim (fun k_ => spec_l00Src_message.j0 k_ x1000 x1001 x1002 x363000 x363001 x363002 x363003 x363004 x363005 x363006)
noncomputable def spec_l00Src_message.v (s0_0 : List Int) (s0_1 : Int) (s0_2 : Int) : Option (Int × Int × Int × Int × ByteArray × ByteArray × ByteArray × Int × Int) := lim (fun k_ => spec_l00Src_message.f k_ s0_0 s0_1 s0_2)
theorem spec_l00Src_message.jv0_lim (x1000 : List Int) (x1001 : Int) (x1002 : Int) (x363000 : Int) (x363001 : Int) (x363002 : Int) (x363003 : Int) (x363004 : ByteArray) (x363005 : ByteArray) (x363006 : ByteArray) : LimIs (fun k_ => spec_l00Src_message.j0 k_ x1000 x1001 x1002 x363000 x363001 x363002 x363003 x363004 x363005 x363006) (spec_l00Src_message.jv0 x1000 x1001 x1002 x363000 x363001 x363002 x363003 x363004 x363005 x363006) := lim_is (fun k_ => (spec_l00Src_message.mono_l k_) x1000 x1001 x1002 x363000 x363001 x363002 x363003 x363004 x363005 x363006)
theorem spec_l00Src_message.v_lim (s0_0 : List Int) (s0_1 : Int) (s0_2 : Int) : LimIs (fun k_ => spec_l00Src_message.f k_ s0_0 s0_1 s0_2) (spec_l00Src_message.v s0_0 s0_1 s0_2) := lim_is (fun k_ => spec_l00Src_message.mono s0_0 s0_1 s0_2 k_)
theorem spec_l00Src_message.jv0_eq (x1000 : List Int) (x1001 : Int) (x1002 : Int) (x363000 : Int) (x363001 : Int) (x363002 : Int) (x363003 : Int) (x363004 : ByteArray) (x363005 : ByteArray) (x363006 : ByteArray) : spec_l00Src_message.jv0 x1000 x1001 x1002 x363000 x363001 x363002 x363003 x363004 x363005 x363006 = (if x363000 = 1 then ((spec_l00Src_batch.v x1000 x1001 x1002).bind fun bt373 => ((spec_l02Batch.v bt373.1 bt373.2.1 bt373.2.2.1 bt373.2.2.2.1 bt373.2.2.2.2.1 bt373.2.2.2.2.2.1 bt373.2.2.2.2.2.2.1).bind fun t384 => (if x363000 ≥ 4 then ((spec_l02List.v (([(⟨#[111, 110, 101]⟩ : ByteArray), (⟨#[116, 119, 111]⟩ : ByteArray)] : List ByteArray))).bind fun t390 => (some (x363000, x363001, x363002, x363003, x363004, strOfNums t390, x363006, bt373.2.2.2.2.2.2.2.1, bt373.2.2.2.2.2.2.2.2))) else (some (x363000, x363001, x363002, x363003, x363004, strOfNums t384, x363006, bt373.2.2.2.2.2.2.2.1, bt373.2.2.2.2.2.2.2.2))))) else (if x363000 ≥ 4 then ((spec_l02List.v (([(⟨#[111, 110, 101]⟩ : ByteArray), (⟨#[116, 119, 111]⟩ : ByteArray)] : List ByteArray))).bind fun t396 => (some (x363000, x363001, x363002, x363003, x363004, strOfNums t396, x363006, x1001, x1002))) else (some (x363000, x363001, x363002, x363003, x363004, x363005, x363006, x1001, x1002))) : Option (Int × Int × Int × Int × ByteArray × ByteArray × ByteArray × Int × Int)) := by
  refine LimIs.eq (spec_l00Src_message.jv0_lim x1000 x1001 x1002 x363000 x363001 x363002 x363003 x363004 x363005 x363006) ?_
  refine LimIs.step (fun k_ => (spec_l00Src_message.mono_l k_) x1000 x1001 x1002 x363000 x363001 x363002 x363003 x363004 x363005 x363006) ?_
  simp only [spec_l00Src_message.j0]
  repeat' (with_reducible first | exact spec_l00Src_batch.v_lim _ _ _ | exact spec_l02Batch.v_lim _ _ _ _ _ _ _ | exact spec_l02List.v_lim _ | exact LimIs.const _ | refine LimIs.ite ?_ ?_ | refine LimIs.bind ?_ (fun _ => ?_))
theorem spec_l00Src_message.v_eq (s0_0 : List Int) (s0_1 : Int) (s0_2 : Int) : spec_l00Src_message.v s0_0 s0_1 s0_2 = ((spec_l00Src_next.v s0_0 s0_1 s0_2 5).bind fun bt346 => ((spec_l00Src_next.v s0_0 bt346.2.1 bt346.2.2 4).bind fun bt349 => ((spec_l00Src_next.v s0_0 bt349.2.1 bt349.2.2 4).bind fun bt352 => ((spec_l00Src_next.v s0_0 bt352.2.1 bt352.2.2 9).bind fun bt355 => ((spec_l01Hash.v (([(bt355.1) % 256] : List Int))).bind fun t361 => (if 0 ≤ 8 then (if 8 ≤ (t361.size : Int) then (if (wrap64 (1 + bt346.1)) ≤ 3 then ((spec_l00Src_next.v s0_0 bt355.2.1 bt355.2.2 4).bind fun bt363 => ((spec_l00Src_next.v s0_0 bt363.2.1 bt363.2.2 4).bind fun bt366 => ((spec_l01Hash.v (([(bt366.1) % 256] : List Int))).bind fun t372 => (spec_l00Src_message.jv0 s0_0 bt366.2.1 bt366.2.2 (wrap64 (1 + bt346.1)) bt349.1 (wrap64 (1 + bt363.1)) bt352.1 t372 (⟨#[]⟩ : ByteArray) (t361.extract 0 8))))) else (spec_l00Src_message.jv0 s0_0 bt355.2.1 bt355.2.2 (wrap64 (1 + bt346.1)) bt349.1 0 bt352.1 (⟨#[]⟩ : ByteArray) (⟨#[]⟩ : ByteArray) (t361.extract 0 8))) else (none)) else (none)))))) : Option (Int × Int × Int × Int × ByteArray × ByteArray × ByteArray × Int × Int)) := by
  refine LimIs.eq (spec_l00Src_message.v_lim s0_0 s0_1 s0_2) ?_
  simp only [spec_l00Src_message.f]
  repeat' (with_reducible first | exact spec_l00Src_message.jv0_lim _ _ _ _ _ _ _ _ _ _ | exact spec_l00Src_next.v_lim _ _ _ _ | exact spec_l01Hash.v_lim _ | exact LimIs.const _ | refine LimIs.ite ?_ ?_ | refine LimIs.bind ?_ (fun _ => ?_))
def spec_MessageOf.f (k : Nat) (l0 : List Int) : Option (Int × Int × Int × Int × ByteArray × ByteArray × ByteArray) := (spec_l00Source.f l0).bind fun bt400 => ((spec_l00Src_message.f k bt400.1 bt400.2.1 bt400.2.2).bind fun bt404 => (some (bt404.1, bt404.2.1, bt404.2.2.1, bt404.2.2.2.1, bt404.2.2.2.2.1, bt404.2.2.2.2.2.1, bt404.2.2.2.2.2.2.1)))
theorem spec_MessageOf.mono : ∀ a0 k, LeO (spec_MessageOf.f k a0) (spec_MessageOf.f (k + 1) a0) := by
  intro a0 k
  unfold spec_MessageOf.f
  repeat' first
      | (with_reducible exact spec_l00Src_message.mono _ _ _ _)
      | (with_reducible exact LeO.refl _)
      | (with_reducible exact LeO.none _)
      | (with_reducible refine LeO.ite ?_ ?_)
      | (with_reducible refine LeO.bind ?_ (fun _ => ?_))
      | exact spec_l00Src_message.mono _ _ _ _
      | exact LeO.none _
      | refine LeO.ite ?_ ?_
      | refine LeO.bind ?_ (fun _ => ?_)
noncomputable def spec_MessageOf.v (l0 : List Int) : Option (Int × Int × Int × Int × ByteArray × ByteArray × ByteArray) := lim (fun k_ => spec_MessageOf.f k_ l0)
theorem spec_MessageOf.v_lim (l0 : List Int) : LimIs (fun k_ => spec_MessageOf.f k_ l0) (spec_MessageOf.v l0) := lim_is (fun k_ => spec_MessageOf.mono l0 k_)
theorem spec_MessageOf.v_eq (l0 : List Int) : spec_MessageOf.v l0 = ((spec_l00Source.v l0).bind fun bt400 => ((spec_l00Src_message.v bt400.1 bt400.2.1 bt400.2.2).bind fun bt404 => (some (bt404.1, bt404.2.1, bt404.2.2.1, bt404.2.2.2.1, bt404.2.2.2.2.1, bt404.2.2.2.2.2.1, bt404.2.2.2.2.2.2.1))) : Option (Int × Int × Int × Int × ByteArray × ByteArray × ByteArray)) := by
  refine LimIs.eq (spec_MessageOf.v_lim l0) ?_
  simp only [spec_MessageOf.f]
  repeat' (with_reducible first | exact spec_l00Source.v_lim _ | exact spec_l00Src_message.v_lim _ _ _ | exact LimIs.const _ | refine LimIs.ite ?_ ?_ | refine LimIs.bind ?_ (fun _ => ?_))
def impl_within.f (a0 : Int) (a1 : Int) (a2 : Int) : Option (Bool) := if a0 ≥ a1 then (some (decide (a0 ≤ a2))) else (some false)
def impl_within.v (a0 : Int) (a1 : Int) (a2 : Int) : Option (Bool) := impl_within.f a0 a1 a2
theorem impl_within.v_lim (a0 : Int) (a1 : Int) (a2 : Int) : LimIs (fun _ => impl_within.f a0 a1 a2) (impl_within.v a0 a1 a2) := LimIs.const _
theorem impl_within.v_eq (a0 : Int) (a1 : Int) (a2 : Int) : impl_within.v a0 a1 a2 = (if a0 ≥ a1 then (some (decide (a0 ≤ a2))) else (some false) : Option (Bool)) := rfl
def impl_isHash.f (a0 : ByteArray) : Option (Bool) := some ((a0.size : Int) == 32)
def impl_isHash.v (a0 : ByteArray) : Option (Bool) := impl_isHash.f a0
theorem impl_isHash.v_lim (a0 : ByteArray) : LimIs (fun _ => impl_isHash.f a0) (impl_isHash.v a0) := LimIs.const _
theorem impl_isHash.v_eq (a0 : ByteArray) : impl_isHash.v a0 = (some ((a0.size : Int) == 32) : Option (Bool)) := rfl
mutual
def impl_MessageOK.j0 : Nat → Bool → Int → Int → Int → Int → ByteArray → ByteArray → ByteArray → Option (Bool)
  | 0, _, _, _, _, _, _, _, _ => none
  | k + 1, x24, x414000, x414001, x414002, x414003, x414004, x414005, x414006 => if x24 = true then (some false) else (if x414000 = 1 then (impl_MessageOK.j1 k x414000 (x414000 == 1) x414000 x414001 x414002 x414003 x414004 x414005 x414006) else (if x414000 = 2 then (impl_MessageOK.j1 k x414000 (x414000 == 2) x414000 x414001 x414002 x414003 x414004 x414005 x414006) else (impl_MessageOK.j1 k x414000 (x414000 == 3) x414000 x414001 x414002 x414003 x414004 x414005 x414006)))
def impl_MessageOK.j1 : Nat → Int → Bool → Int → Int → Int → Int → ByteArray → ByteArray → ByteArray → Option (Bool)
  | 0, _, _, _, _, _, _, _, _, _ => none
  | k + 1, x26, x27, x414000, x414001, x414002, x414003, x414004, x414005, x414006 => if x27 = true then ((impl_within.f x414002 1 8).bind fun t416 => (if t416 = true then ((impl_isHash.f x414004).bind fun t417 => (if t417 = true then (some ((x414005.toList != ([] : List UInt8)) == (x414000 == 1))) else (some false))) else (some false))) else (if x26 = 4 then (if x414002 = 0 then (some (x414004.toList == ([] : List UInt8))) else (some false)) else (if x26 = 5 then (if x414002 = 0 then (some (x414004.toList == ([] : List UInt8))) else (some false)) else (some false)))
end
def impl_MessageOK.f (k : Nat) (a0_0 : Int) (a0_1 : Int) (a0_2 : Int) (a0_3 : Int) (a0_4 : ByteArray) (a0_5 : ByteArray) (a0_6 : ByteArray) : Option (Bool) := (impl_within.f a0_1 0 20).bind fun t414 => (if t414 = true then ((impl_within.f a0_3 0 6).bind fun t415 => (if t415 = true then (if (a0_6.size : Int) = 8 then (impl_MessageOK.j0 k (decide ((a0_5.size : Int) > 20000)) a0_0 a0_1 a0_2 a0_3 a0_4 a0_5 a0_6) else (impl_MessageOK.j0 k true a0_0 a0_1 a0_2 a0_3 a0_4 a0_5 a0_6)) else (impl_MessageOK.j0 k true a0_0 a0_1 a0_2 a0_3 a0_4 a0_5 a0_6))) else (impl_MessageOK.j0 k true a0_0 a0_1 a0_2 a0_3 a0_4 a0_5 a0_6))
theorem impl_MessageOK.mono_l : ∀ k, (∀ y0 y1 y2 y3 y4 y5 y6 y7, LeO (impl_MessageOK.j0 k y0 y1 y2 y3 y4 y5 y6 y7) (impl_MessageOK.j0 (k + 1) y0 y1 y2 y3 y4 y5 y6 y7)) ∧ (∀ y0 y1 y2 y3 y4 y5 y6 y7 y8, LeO (impl_MessageOK.j1 k y0 y1 y2 y3 y4 y5 y6 y7 y8) (impl_MessageOK.j1 (k + 1) y0 y1 y2 y3 y4 y5 y6 y7 y8))
  | 0 => ⟨fun _ _ _ _ _ _ _ _ r h => by simp [impl_MessageOK.j0] at h, fun _ _ _ _ _ _ _ _ _ r h => by simp [impl_MessageOK.j1] at h⟩
  | k + 1 => by
    obtain ⟨ih0, ih1⟩ := impl_MessageOK.mono_l k
    refine ⟨?_, ?_⟩
    · intro y0 y1 y2 y3 y4 y5 y6 y7
      unfold impl_MessageOK.j0
      repeat' first
      | (with_reducible exact ih0 _ _ _ _ _ _ _ _)
      | (with_reducible exact ih1 _ _ _ _ _ _ _ _ _)
      | (with_reducible exact LeO.refl _)
      | (with_reducible exact LeO.none _)
      | (with_reducible refine LeO.ite ?_ ?_)
      | (with_reducible refine LeO.bind ?_ (fun _ => ?_))
      | exact ih0 _ _ _ _ _ _ _ _
      | exact ih1 _ _ _ _ _ _ _ _ _
      | exact LeO.none _
      | refine LeO.ite ?_ ?_
      | refine LeO.bind ?_ (fun _ => ?_)
    · intro y0 y1 y2 y3 y4 y5 y6 y7 y8
      unfold impl_MessageOK.j1
      repeat' first
      | (with_reducible exact ih0 _ _ _ _ _ _ _ _)
      | (with_reducible exact ih1 _ _ _ _ _ _ _ _ _)
      | (with_reducible exact LeO.refl _)
      | (with_reducible exact LeO.none _)
      | (with_reducible refine LeO.ite ?_ ?_)
      | (with_reducible refine LeO.bind ?_ (fun _ => ?_))
      | exact ih0 _ _ _ _ _ _ _ _
      | exact ih1 _ _ _ _ _ _ _ _ _
      | exact LeO.none _
      | refine LeO.ite ?_ ?_
      | refine LeO.bind ?_ (fun _ => ?_)
theorem impl_MessageOK.mono : ∀ a0 a1 a2 a3 a4 a5 a6 k, LeO (impl_MessageOK.f k a0 a1 a2 a3 a4 a5 a6) (impl_MessageOK.f (k + 1) a0 a1 a2 a3 a4 a5 a6) := by
  intro a0 a1 a2 a3 a4 a5 a6 k
  obtain ⟨ih0, ih1⟩ := impl_MessageOK.mono_l k
  unfold impl_MessageOK.f
  repeat' first
      | (with_reducible exact ih0 _ _ _ _ _ _ _ _)
      | (with_reducible exact ih1 _ _ _ _ _ _ _ _ _)
      | (with_reducible exact LeO.refl _)
      | (with_reducible exact LeO.none _)
      | (with_reducible refine LeO.ite ?_ ?_)
      | (with_reducible refine LeO.bind ?_ (fun _ => ?_))
      | exact ih0 _ _ _ _ _ _ _ _
      | exact ih1 _ _ _ _ _ _ _ _ _
      | exact LeO.none _
      | refine LeO.ite ?_ ?_
      | refine LeO.bind ?_ (fun _ => ?_)
noncomputable def impl_MessageOK.jv0 (x24 : Bool) (x414000 : Int) (x414001 : Int) (x414002 : Int) (x414003 : Int) (x414004 : ByteArray) (x414005 : ByteArray) (x414006 : ByteArray) : Option (Bool) := lim (fun k_ => impl_MessageOK.j0 k_ x24 x414000 x414001 x414002 x414003 x414004 x414005 x414006)
noncomputable def impl_MessageOK.jv1 (x26 : Int) (x27 : Bool) (x414000 : Int) (x414001 : Int) (x414002 : Int) (x414003 : Int) (x414004 : ByteArray) (x414005 : ByteArray) (x414006 : ByteArray) : Option (Bool) := lim (fun k_ => impl_MessageOK.j1 k_ x26 x27 x414000 x414001 x414002 x414003 x414004 x414005 x414006)
noncomputable def impl_MessageOK.v (a0_0 : Int) (a0_1 : Int) (a0_2 : Int) (a0_3 : Int) (a0_4 : ByteArray) (a0_5 : ByteArray) (a0_6 : ByteArray) : Option (Bool) := lim (fun k_ => impl_MessageOK.f k_ a0_0 a0_1 a0_2 a0_3 a0_4 a0_5 a0_6)
theorem impl_MessageOK.jv0_lim (x24 : Bool) (x414000 : Int) (x414001 : Int) (x414002 : Int) (x414003 : Int) (x414004 : ByteArray) (x414005 : ByteArray) (x414006 : ByteArray) : LimIs (fun k_ => impl_MessageOK.j0 k_ x24 x414000 x414001 x414002 x414003 x414004 x414005 x414006) (impl_MessageOK.jv0 x24 x414000 x414001 x414002 x414003 x414004 x414005 x414006) := lim_is (fun k_ => (impl_MessageOK.mono_l k_).1 x24 x414000 x414001 x414002 x414003 x414004 x414005 x414006)
theorem impl_MessageOK.jv1_lim (x26 : Int) (x27 : Bool) (x414000 : Int) (x414001 : Int) (x414002 : Int) (x414003 : Int) (x414004 : ByteArray) (x414005 : ByteArray) (x414006 : ByteArray) : LimIs (fun k_ => impl_MessageOK.j1 k_ x26 x27 x414000 x414001 x414002 x414003 x414004 x414005 x414006) (impl_MessageOK.jv1 x26 x27 x414000 x414001 x414002 x414003 x414004 x414005 x414006) := lim_is (fun k_ => (impl_MessageOK.mono_l k_).2 x26 x27 x414000 x414001 x414002 x414003 x414004 x414005 x414006)
theorem impl_MessageOK.v_lim (a0_0 : Int) (a0_1 : Int) (a0_2 : Int) (a0_3 : Int) (a0_4 : ByteArray) (a0_5 : ByteArray) (a0_6 : ByteArray) : LimIs (fun k_ => impl_MessageOK.f k_ a0_0 a0_1 a0_2 a0_3 a0_4 a0_5 a0_6) (impl_MessageOK.v a0_0 a0_1 a0_2 a0_3 a0_4 a0_5 a0_6) := lim_is (fun k_ => impl_MessageOK.mono a0_0 a0_1 a0_2 a0_3 a0_4 a0_5 a0_6 k_)
theorem impl_MessageOK.jv0_eq (x24 : Bool) (x414000 : Int) (x414001 : Int) (x414002 : Int) (x414003 : Int) (x414004 : ByteArray) (x414005 : ByteArray) (x414006 : ByteArray) : impl_MessageOK.jv0 x24 x414000 x414001 x414002 x414003 x414004 x414005 x414006 = (if x24 = true then (some false) else (if x414000 = 1 then (impl_MessageOK.jv1 x414000 (x414000 == 1) x414000 x414001 x414002 x414003 x414004 x414005 x414006) else (if x414000 = 2 then (impl_MessageOK.jv1 x414000 (x414000 == 2) x414000 x414001 x414002 x414003 x414004 x414005 x414006) else (impl_MessageOK.jv1 x414000 (x414000 == 3) x414000 x414001 x414002 x414003 x414004 x414005 x414006))) : Option (Bool)) := by
  refine LimIs.eq (impl_MessageOK.jv0_lim x24 x414000 x414001 x414002 x414003 x414004 x414005 x414006) ?_
  refine LimIs.step (fun k_ => (impl_MessageOK.mono_l k_).1 x24 x414000 x414001 x414002 x414003 x414004 x414005 x414006) ?_
  simp only [impl_MessageOK.j0]
  repeat' (with_reducible first | exact impl_MessageOK.jv1_lim _ _ _ _ _ _ _ _ _ | exact LimIs.const _ | refine LimIs.ite ?_ ?_ | refine LimIs.bind ?_ (fun _ => ?_))
theorem impl_MessageOK.jv1_eq (x26 : Int) (x27 : Bool) (x414000 : Int) (x414001 : Int) (x414002 : Int) (x414003 : Int) (x414004 : ByteArray) (x414005 : ByteArray) (x414006 : ByteArray) : impl_MessageOK.jv1 x26 x27 x414000 x414001 x414002 x414003 x414004 x414005 x414006 = (if x27 = true then ((impl_within.v x414002 1 8).bind fun t416 => (if t416 = true then ((impl_isHash.v x414004).bind fun t417 => (if t417 = true then (some ((x414005.toList != ([] : List UInt8)) == (x414000 == 1))) else (some false))) else (some false))) else (if x26 = 4 then (if x414002 = 0 then (some (x414004.toList == ([] : List UInt8))) else (some false)) else (if x26 = 5 then (if x414002 = 0 then (some (x414004.toList == ([] : List UInt8))) else (some false)) else (some false))) : Option (Bool)) := by
  refine LimIs.eq (impl_MessageOK.jv1_lim x26 x27 x414000 x414001 x414002 x414003 x414004 x414005 x414006) ?_
  refine LimIs.step (fun k_ => (impl_MessageOK.mono_l k_).2 x26 x27 x414000 x414001 x414002 x414003 x414004 x414005 x414006) ?_
  simp only [impl_MessageOK.j1]
  repeat' (with_reducible first | exact impl_isHash.v_lim _ | exact impl_within.v_lim _ _ _ | exact LimIs.const _ | refine LimIs.ite ?_ ?_ | refine LimIs.bind ?_ (fun _ => ?_))
theorem impl_MessageOK.v_eq (a0_0 : Int) (a0_1 : Int) (a0_2 : Int) (a0_3 : Int) (a0_4 : ByteArray) (a0_5 : ByteArray) (a0_6 : ByteArray) : impl_MessageOK.v a0_0 a0_1 a0_2 a0_3 a0_4 a0_5 a0_6 = ((impl_within.v a0_1 0 20).bind fun t414 => (if t414 = true then ((impl_within.v a0_3 0 6).bind fun t415 => (if t415 = true then (if (a0_6.size : Int) = 8 then (impl_MessageOK.jv0 (decide ((a0_5.size : Int) > 20000)) a0_0 a0_1 a0_2 a0_3 a0_4 a0_5 a0_6) else (impl_MessageOK.jv0 true a0_0 a0_1 a0_2 a0_3 a0_4 a0_5 a0_6)) else (impl_MessageOK.jv0 true a0_0 a0_1 a0_2 a0_3 a0_4 a0_5 a0_6))) else (impl_MessageOK.jv0 true a0_0 a0_1 a0_2 a0_3 a0_4 a0_5 a0_6)) : Option (Bool)) := by
  refine LimIs.eq (impl_MessageOK.v_lim a0_0 a0_1 a0_2 a0_3 a0_4 a0_5 a0_6) ?_
  simp only [impl_MessageOK.f]
  repeat' (with_reducible first | exact impl_MessageOK.jv0_lim _ _ _ _ _ _ _ _ | exact impl_within.v_lim _ _ _ | exact LimIs.const _ | refine LimIs.ite ?_ ?_ | refine LimIs.bind ?_ (fun _ => ?_))
def impl_number.l0 : Nat → Int → List Int → Int → Option (ByteArray)
  | 0, _, _, _ => none
  | k + 1, x0, x5, x6 => if x6 ≥ 0 then (if 0 ≤ x6 then (if x6 < (x5.length : Int) then (impl_number.l0 k (x0 / 256) (x5.set (x6 : Int).toNat ((x0) % 256)) (wrap64 (x6 - 1))) else (none)) else (none)) else (some (strOfNums x5))
def impl_number.f (k : Nat) (a0 : Int) (a1 : Int) : Option (ByteArray) := if 0 ≤ a1 then (if (a1 : Int).toNat ≤ 281474976710656 then (impl_number.l0 k a0 (List.replicate (a1 : Int).toNat 0) (wrap64 (a1 - 1))) else (none)) else (none)
theorem impl_number.mono_l : ∀ k, (∀ y0 y1 y2, LeO (impl_number.l0 k y0 y1 y2) (impl_number.l0 (k + 1) y0 y1 y2))
  | 0 => fun _ _ _ r h => by simp [impl_number.l0] at h
  | k + 1 => by
    have ih0 := impl_number.mono_l k
    · intro y0 y1 y2
      unfold impl_number.l0
      repeat' first
      | (with_reducible exact ih0 _ _ _)
      | (with_reducible exact LeO.refl _)
      | (with_reducible exact LeO.none _)
      | (with_reducible refine LeO.ite ?_ ?_)
      | (with_reducible refine LeO.bind ?_ (fun _ => ?_))
      | exact ih0 _ _ _
      | exact LeO.none _
      | refine LeO.ite ?_ ?_
      | refine LeO.bind ?_ (fun _ => ?_)
theorem impl_number.mono : ∀ a0 a1 k, LeO (impl_number.f k a0 a1) (impl_number.f (k + 1) a0 a1) := by
  intro a0 a1 k
  have ih0 := impl_number.mono_l k
  unfold impl_number.f
  repeat' first
      | (with_reducible exact ih0 _ _ _)
      | (with_reducible exact LeO.refl _)
      | (with_reducible exact LeO.none _)
      | (with_reducible refine LeO.ite ?_ ?_)
      | (with_reducible refine LeO.bind ?_ (fun _ => ?_))
      | exact ih0 _ _ _
      | exact LeO.none _
      | refine LeO.ite ?_ ?_
      | refine LeO.bind ?_ (fun _ => ?_)
noncomputable def impl_number.lv0 (x0 : Int) (x5 : List Int) (x6 : Int) : Option (ByteArray) := lim (fun k_ => impl_number.l0 k_ x0 x5 x6)
noncomputable def impl_number.v (a0 : Int) (a1 : Int) : Option (ByteArray) := lim (fun k_ => impl_number.f k_ a0 a1)
theorem impl_number.lv0_lim (x0 : Int) (x5 : List Int) (x6 : Int) : LimIs (fun k_ => impl_number.l0 k_ x0 x5 x6) (impl_number.lv0 x0 x5 x6) := lim_is (fun k_ => (impl_number.mono_l k_) x0 x5 x6)
theorem impl_number.v_lim (a0 : Int) (a1 : Int) : LimIs (fun k_ => impl_number.f k_ a0 a1) (impl_number.v a0 a1) := lim_is (fun k_ => impl_number.mono a0 a1 k_)
theorem impl_number.lv0_eq (x0 : Int) (x5 : List Int) (x6 : Int) : impl_number.lv0 x0 x5 x6 = (if x6 ≥ 0 then (if 0 ≤ x6 then (if x6 < (x5.length : Int) then (impl_number.lv0 (x0 / 256) (x5.set (x6 : Int).toNat ((x0) % 256)) (wrap64 (x6 - 1))) else (none)) else (none)) else (some (strOfNums x5)) : Option (ByteArray)) := by
  refine LimIs.eq (impl_number.lv0_lim x0 x5 x6) ?_
  refine LimIs.step (fun k_ => (impl_number.mono_l k_) x0 x5 x6) ?_
  simp only [impl_number.l0]
  repeat' (with_reducible first | exact impl_number.lv0_lim _ _ _ | exact LimIs.const _ | refine LimIs.ite ?_ ?_ | refine LimIs.bind ?_ (fun _ => ?_))
theorem impl_number.v_eq (a0 : Int) (a1 : Int) : impl_number.v a0 a1 = (if 0 ≤ a1 then (if (a1 : Int).toNat ≤ 281474976710656 then (impl_number.lv0 a0 (List.replicate (a1 : Int).toNat 0) (wrap64 (a1 - 1))) else (none)) else (none) : Option (ByteArray)) := by
  refine LimIs.eq (impl_number.v_lim a0 a1) ?_
  simp only [impl_number.f]
  repeat' (with_reducible first | exact impl_number.lv0_lim _ _ _ | exact LimIs.const _ | refine LimIs.ite ?_ ?_ | refine LimIs.bind ?_ (fun _ => ?_))
def impl_bareText.f (k : Nat) (a0_0 : Int) (a0_1 : Int) (a0_2 : Int) (a0_3 : Int) (a0_4 : ByteArray) (a0_5 : ByteArray) (a0_6 : ByteArray) : Option (ByteArray) := (impl_number.f k a0_0 1).bind fun t423 => ((impl_number.f k a0_1 1).bind fun t424 => (if t423.size + t424.size ≤ 9223372036854775807 then ((impl_number.f k a0_2 1).bind fun t425 => (if (t423 ++ t424).size + t425.size ≤ 9223372036854775807 then ((impl_number.f k a0_3 1).bind fun t426 => (if ((t423 ++ t424) ++ t425).size + t426.size ≤ 9223372036854775807 then ((impl_number.f k (a0_4.size : Int) 1).bind fun t427 => (if (((t423 ++ t424) ++ t425) ++ t426).size + t427.size ≤ 9223372036854775807 then (if ((((t423 ++ t424) ++ t425) ++ t426) ++ t427).size + a0_4.size ≤ 9223372036854775807 then ((impl_number.f k (a0_5.size : Int) 2).bind fun t428 => (if (((((t423 ++ t424) ++ t425) ++ t426) ++ t427) ++ a0_4).size + t428.size ≤ 9223372036854775807 then (if ((((((t423 ++ t424) ++ t425) ++ t426) ++ t427) ++ a0_4) ++ t428).size + a0_5.size ≤ 9223372036854775807 then (some (((((((t423 ++ t424) ++ t425) ++ t426) ++ t427) ++ a0_4) ++ t428) ++ a0_5)) else (none)) else (none))) else (none)) else (none))) else (none))) else (none))) else (none)))
theorem impl_bareText.mono : ∀ a0 a1 a2 a3 a4 a5 a6 k, LeO (impl_bareText.f k a0 a1 a2 a3 a4 a5 a6) (impl_bareText.f (k + 1) a0 a1 a2 a3 a4 a5 a6) := by
  intro a0 a1 a2 a3 a4 a5 a6 k
  unfold impl_bareText.f
  repeat' first
      | (with_reducible exact impl_number.mono _ _ _)
      | (with_reducible exact LeO.refl _)
      | (with_reducible exact LeO.none _)
      | (with_reducible refine LeO.ite ?_ ?_)
      | (with_reducible refine LeO.bind ?_ (fun _ => ?_))
      | exact impl_number.mono _ _ _
      | exact LeO.none _
      | refine LeO.ite ?_ ?_
      | refine LeO.bind ?_ (fun _ => ?_)
noncomputable def impl_bareText.v (a0_0 : Int) (a0_1 : Int) (a0_2 : Int) (a0_3 : Int) (a0_4 : ByteArray) (a0_5 : ByteArray) (a0_6 : ByteArray) : Option (ByteArray) := lim (fun k_ => impl_bareText.f k_ a0_0 a0_1 a0_2 a0_3 a0_4 a0_5 a0_6)
theorem impl_bareText.v_lim (a0_0 : Int) (a0_1 : Int) (a0_2 : Int) (a0_3 : Int) (a0_4 : ByteArray) (a0_5 : ByteArray) (a0_6 : ByteArray) : LimIs (fun k_ => impl_bareText.f k_ a0_0 a0_1 a0_2 a0_3 a0_4 a0_5 a0_6) (impl_bareText.v a0_0 a0_1 a0_2 a0_3 a0_4 a0_5 a0_6) := lim_is (fun k_ => impl_bareText.mono a0_0 a0_1 a0_2 a0_3 a0_4 a0_5 a0_6 k_)
theorem impl_bareText.v_eq (a0_0 : Int) (a0_1 : Int) (a0_2 : Int) (a0_3 : Int) (a0_4 : ByteArray) (a0_5 : ByteArray) (a0_6 : ByteArray) : impl_bareText.v a0_0 a0_1 a0_2 a0_3 a0_4 a0_5 a0_6 = ((impl_number.v a0_0 1).bind fun t423 => ((impl_number.v a0_1 1).bind fun t424 => (if t423.size + t424.size ≤ 9223372036854775807 then ((impl_number.v a0_2 1).bind fun t425 => (if (t423 ++ t424).size + t425.size ≤ 9223372036854775807 then ((impl_number.v a0_3 1).bind fun t426 => (if ((t423 ++ t424) ++ t425).size + t426.size ≤ 9223372036854775807 then ((impl_number.v (a0_4.size : Int) 1).bind fun t427 => (if (((t423 ++ t424) ++ t425) ++ t426).size + t427.size ≤ 9223372036854775807 then (if ((((t423 ++ t424) ++ t425) ++ t426) ++ t427).size + a0_4.size ≤ 9223372036854775807 then ((impl_number.v (a0_5.size : Int) 2).bind fun t428 => (if (((((t423 ++ t424) ++ t425) ++ t426) ++ t427) ++ a0_4).size + t428.size ≤ 9223372036854775807 then (if ((((((t423 ++ t424) ++ t425) ++ t426) ++ t427) ++ a0_4) ++ t428).size + a0_5.size ≤ 9223372036854775807 then (some (((((((t423 ++ t424) ++ t425) ++ t426) ++ t427) ++ a0_4) ++ t428) ++ a0_5)) else (none)) else (none))) else (none)) else (none))) else (none))) else (none))) else (none))) : Option (ByteArray)) := by
  refine LimIs.eq (impl_bareText.v_lim a0_0 a0_1 a0_2 a0_3 a0_4 a0_5 a0_6) ?_
  simp only [impl_bareText.f]
  repeat' (with_reducible first | exact impl_number.v_lim _ _ | exact LimIs.const _ | refine LimIs.ite ?_ ?_ | refine LimIs.bind ?_ (fun _ => ?_))
def impl_messageText.f (k : Nat) (a0_0 : Int) (a0_1 : Int) (a0_2 : Int) (a0_3 : Int) (a0_4 : ByteArray) (a0_5 : ByteArray) (a0_6 : ByteArray) : Option (ByteArray) := (impl_bareText.f k a0_0 a0_1 a0_2 a0_3 a0_4 a0_5 a0_6).bind fun t430 => (if t430.size + a0_6.size ≤ 9223372036854775807 then (some (t430 ++ a0_6)) else (none))
theorem impl_messageText.mono : ∀ a0 a1 a2 a3 a4 a5 a6 k, LeO (impl_messageText.f k a0 a1 a2 a3 a4 a5 a6) (impl_messageText.f (k + 1) a0 a1 a2 a3 a4 a5 a6) := by
  intro a0 a1 a2 a3 a4 a5 a6 k
  unfold impl_messageText.f
  repeat' first
      | (with_reducible exact impl_bareText.mono _ _ _ _ _ _ _ _)
      | (with_reducible exact LeO.refl _)
      | (with_reducible exact LeO.none _)
      | (with_reducible refine LeO.ite ?_ ?_)
      | (with_reducible refine LeO.bind ?_ (fun _ => ?_))
      | exact impl_bareText.mono _ _ _ _ _ _ _ _
      | exact LeO.none _
      | refine LeO.ite ?_ ?_
      | refine LeO.bind ?_ (fun _ => ?_)
noncomputable def impl_messageText.v (a0_0 : Int) (a0_1 : Int) (a0_2 : Int) (a0_3 : Int) (a0_4 : ByteArray) (a0_5 : ByteArray) (a0_6 : ByteArray) : Option (ByteArray) := lim (fun k_ => impl_messageText.f k_ a0_0 a0_1 a0_2 a0_3 a0_4 a0_5 a0_6)
theorem impl_messageText.v_lim (a0_0 : Int) (a0_1 : Int) (a0_2 : Int) (a0_3 : Int) (a0_4 : ByteArray) (a0_5 : ByteArray) (a0_6 : ByteArray) : LimIs (fun k_ => impl_messageText.f k_ a0_0 a0_1 a0_2 a0_3 a0_4 a0_5 a0_6) (impl_messageText.v a0_0 a0_1 a0_2 a0_3 a0_4 a0_5 a0_6) := lim_is (fun k_ => impl_messageText.mono a0_0 a0_1 a0_2 a0_3 a0_4 a0_5 a0_6 k_)
theorem impl_messageText.v_eq (a0_0 : Int) (a0_1 : Int) (a0_2 : Int) (a0_3 : Int) (a0_4 : ByteArray) (a0_5 : ByteArray) (a0_6 : ByteArray) : impl_messageText.v a0_0 a0_1 a0_2 a0_3 a0_4 a0_5 a0_6 = ((impl_bareText.v a0_0 a0_1 a0_2 a0_3 a0_4 a0_5 a0_6).bind fun t430 => (if t430.size + a0_6.size ≤ 9223372036854775807 then (some (t430 ++ a0_6)) else (none)) : Option (ByteArray)) := by
  refine LimIs.eq (impl_messageText.v_lim a0_0 a0_1 a0_2 a0_3 a0_4 a0_5 a0_6) ?_
  simp only [impl_messageText.f]
  repeat' (with_reducible first | exact impl_bareText.v_lim _ _ _ _ _ _ _ | exact LimIs.const _ | refine LimIs.ite ?_ ?_ | refine LimIs.bind ?_ (fun _ => ?_))
def impl_MessageBytes.f (k : Nat) (a0_0 : Int) (a0_1 : Int) (a0_2 : Int) (a0_3 : Int) (a0_4 : ByteArray) (a0_5 : ByteArray) (a0_6 : ByteArray) : Option (List Int × Int) := (impl_MessageOK.f k a0_0 a0_1 a0_2 a0_3 a0_4 a0_5 a0_6).bind fun t432 => (if t432 = true then ((impl_messageText.f k a0_0 a0_1 a0_2 a0_3 a0_4 a0_5 a0_6).bind fun t433 => (if t433.size ≤ 140737488355328 then (some ((bytesOf t433), 0)) else (none))) else (some (([] : List Int), 1)))
theorem impl_MessageBytes.mono : ∀ a0 a1 a2 a3 a4 a5 a6 k, LeO (impl_MessageBytes.f k a0 a1 a2 a3 a4 a5 a6) (impl_MessageBytes.f (k + 1) a0 a1 a2 a3 a4 a5 a6) := by
  intro a0 a1 a2 a3 a4 a5 a6 k
  unfold impl_MessageBytes.f
  repeat' first
      | (with_reducible exact impl_MessageOK.mono _ _ _ _ _ _ _ _)
      | (with_reducible exact impl_messageText.mono _ _ _ _ _ _ _ _)
      | (with_reducible exact LeO.refl _)
      | (with_reducible exact LeO.none _)
      | (with_reducible refine LeO.ite ?_ ?_)
      | (with_reducible refine LeO.bind ?_ (fun _ => ?_))
      | exact impl_MessageOK.mono _ _ _ _ _ _ _ _
      | exact impl_messageText.mono _ _ _ _ _ _ _ _
      | exact LeO.none _
      | refine LeO.ite ?_ ?_
      | refine LeO.bind ?_ (fun _ => ?_)
noncomputable def impl_MessageBytes.v (a0_0 : Int) (a0_1 : Int) (a0_2 : Int) (a0_3 : Int) (a0_4 : ByteArray) (a0_5 : ByteArray) (a0_6 : ByteArray) : Option (List Int × Int) := lim (fun k_ => impl_MessageBytes.f k_ a0_0 a0_1 a0_2 a0_3 a0_4 a0_5 a0_6)
theorem impl_MessageBytes.v_lim (a0_0 : Int) (a0_1 : Int) (a0_2 : Int) (a0_3 : Int) (a0_4 : ByteArray) (a0_5 : ByteArray) (a0_6 : ByteArray) : LimIs (fun k_ => impl_MessageBytes.f k_ a0_0 a0_1 a0_2 a0_3 a0_4 a0_5 a0_6) (impl_MessageBytes.v a0_0 a0_1 a0_2 a0_3 a0_4 a0_5 a0_6) := lim_is (fun k_ => impl_MessageBytes.mono a0_0 a0_1 a0_2 a0_3 a0_4 a0_5 a0_6 k_)
theorem impl_MessageBytes.v_eq (a0_0 : Int) (a0_1 : Int) (a0_2 : Int) (a0_3 : Int) (a0_4 : ByteArray) (a0_5 : ByteArray) (a0_6 : ByteArray) : impl_MessageBytes.v a0_0 a0_1 a0_2 a0_3 a0_4 a0_5 a0_6 = ((impl_MessageOK.v a0_0 a0_1 a0_2 a0_3 a0_4 a0_5 a0_6).bind fun t432 => (if t432 = true then ((impl_messageText.v a0_0 a0_1 a0_2 a0_3 a0_4 a0_5 a0_6).bind fun t433 => (if t433.size ≤ 140737488355328 then (some ((bytesOf t433), 0)) else (none))) else (some (([] : List Int), 1))) : Option (List Int × Int)) := by
  refine LimIs.eq (impl_MessageBytes.v_lim a0_0 a0_1 a0_2 a0_3 a0_4 a0_5 a0_6) ?_
  simp only [impl_MessageBytes.f]
  repeat' (with_reducible first | exact impl_MessageOK.v_lim _ _ _ _ _ _ _ | exact impl_messageText.v_lim _ _ _ _ _ _ _ | exact LimIs.const _ | refine LimIs.ite ?_ ?_ | refine LimIs.bind ?_ (fun _ => ?_))
def spec_l01In.f (a0 : Int) (a1 : Int) (a2 : Int) : Option (Bool) := if a0 ≥ a1 then (some (decide (a0 ≤ a2))) else (some false)
def spec_l01In.v (a0 : Int) (a1 : Int) (a2 : Int) : Option (Bool) := spec_l01In.f a0 a1 a2
theorem spec_l01In.v_lim (a0 : Int) (a1 : Int) (a2 : Int) : LimIs (fun _ => spec_l01In.f a0 a1 a2) (spec_l01In.v a0 a1 a2) := LimIs.const _
theorem spec_l01In.v_eq (a0 : Int) (a1 : Int) (a2 : Int) : spec_l01In.v a0 a1 a2 = (if a0 ≥ a1 then (some (decide (a0 ≤ a2))) else (some false) : Option (Bool)) := rfl
def spec_MessageOK.j0 : Nat → Bool → Int → Int → Int → Int → ByteArray → ByteArray → ByteArray → Option (Bool)
  | 0, _, _, _, _, _, _, _, _ => none
  | k + 1, x30, x438000, x438001, x438002, x438003, x438004, x438005, x438006 => if x30 = true then (some false) else (if x438000 = 1 then ((spec_l01In.f x438002 1 8).bind fun t441 => (if t441 = true then (if (x438004.size : Int) = 32 then (some (x438005.toList != ([] : List UInt8))) else (some false)) else (some false))) else (if x438000 = 2 then ((spec_l01In.f x438002 1 8).bind fun t442 => (if t442 = true then (if (x438004.size : Int) = 32 then (some (x438005.toList == ([] : List UInt8))) else (some false)) else (some false))) else (if x438000 = 3 then ((spec_l01In.f x438002 1 8).bind fun t443 => (if t443 = true then (if (x438004.size : Int) = 32 then (some (x438005.toList == ([] : List UInt8))) else (some false)) else (some false))) else (if x438002 = 0 then (some (x438004.toList == ([] : List UInt8))) else (some false)))))
def spec_MessageOK.f (k : Nat) (a0_0 : Int) (a0_1 : Int) (a0_2 : Int) (a0_3 : Int) (a0_4 : ByteArray) (a0_5 : ByteArray) (a0_6 : ByteArray) : Option (Bool) := (spec_l01In.f a0_0 1 5).bind fun t438 => (if t438 = true then ((spec_l01In.f a0_1 0 20).bind fun t439 => (if t439 = true then ((spec_l01In.f a0_3 0 6).bind fun t440 => (if t440 = true then (if (a0_6.size : Int) = 8 then (spec_MessageOK.j0 k (decide ((a0_5.size : Int) > 20000)) a0_0 a0_1 a0_2 a0_3 a0_4 a0_5 a0_6) else (spec_MessageOK.j0 k true a0_0 a0_1 a0_2 a0_3 a0_4 a0_5 a0_6)) else (spec_MessageOK.j0 k true a0_0 a0_1 a0_2 a0_3 a0_4 a0_5 a0_6))) else (spec_MessageOK.j0 k true a0_0 a0_1 a0_2 a0_3 a0_4 a0_5 a0_6))) else (spec_MessageOK.j0 k true a0_0 a0_1 a0_2 a0_3 a0_4 a0_5 a0_6))
theorem spec_MessageOK.mono_l : ∀ k, (∀ y0 y1 y2 y3 y4 y5 y6 y7, LeO (spec_MessageOK.j0 k y0 y1 y2 y3 y4 y5 y6 y7) (spec_MessageOK.j0 (k + 1) y0 y1 y2 y3 y4 y5 y6 y7))
  | 0 => fun _ _ _ _ _ _ _ _ r h => by simp [spec_MessageOK.j0] at h
  | k + 1 => by
    have ih0 := spec_MessageOK.mono_l k
    · intro y0 y1 y2 y3 y4 y5 y6 y7
      unfold spec_MessageOK.j0
      repeat' first
      | (with_reducible exact ih0 _ _ _ _ _ _ _ _)
      | (with_reducible exact LeO.refl _)
      | (with_reducible exact LeO.none _)
      | (with_reducible refine LeO.ite ?_ ?_)
      | (with_reducible refine LeO.bind ?_ (fun _ => ?_))
      | exact ih0 _ _ _ _ _ _ _ _
      | exact LeO.none _
      | refine LeO.ite ?_ ?_
      | refine LeO.bind ?_ (fun _ => ?_)
theorem spec_MessageOK.mono : ∀ a0 a1 a2 a3 a4 a5 a6 k, LeO (spec_MessageOK.f k a0 a1 a2 a3 a4 a5 a6) (spec_MessageOK.f (k + 1) a0 a1 a2 a3 a4 a5 a6) := by
  intro a0 a1 a2 a3 a4 a5 a6 k
  have ih0 := spec_MessageOK.mono_l k
  unfold spec_MessageOK.f
  repeat' first
      | (with_reducible exact ih0 _ _ _ _ _ _ _ _)
      | (with_reducible exact LeO.refl _)
      | (with_reducible exact LeO.none _)
      | (with_reducible refine LeO.ite ?_ ?_)
      | (with_reducible refine LeO.bind ?_ (fun _ => ?_))
      | exact ih0 _ _ _ _ _ _ _ _
      | exact LeO.none _
      | refine LeO.ite ?_ ?_
      | refine LeO.bind ?_ (fun _ => ?_)
noncomputable def spec_MessageOK.jv0 (x30 : Bool) (x438000 : Int) (x438001 : Int) (x438002 : Int) (x438003 : Int) (x438004 : ByteArray) (x438005 : ByteArray) (x438006 : ByteArray) : Option (Bool) := lim (fun k_ => spec_MessageOK.j0 k_ x30 x438000 x438001 x438002 x438003 x438004 x438005 x438006)
noncomputable def spec_MessageOK.v (a0_0 : Int) (a0_1 : Int) (a0_2 : Int) (a0_3 : Int) (a0_4 : ByteArray) (a0_5 : ByteArray) (a0_6 : ByteArray) : Option (Bool) := lim (fun k_ => spec_MessageOK.f k_ a0_0 a0_1 a0_2 a0_3 a0_4 a0_5 a0_6)
theorem spec_MessageOK.jv0_lim (x30 : Bool) (x438000 : Int) (x438001 : Int) (x438002 : Int) (x438003 : Int) (x438004 : ByteArray) (x438005 : ByteArray) (x438006 : ByteArray) : LimIs (fun k_ => spec_MessageOK.j0 k_ x30 x438000 x438001 x438002 x438003 x438004 x438005 x438006) (spec_MessageOK.jv0 x30 x438000 x438001 x438002 x438003 x438004 x438005 x438006) := lim_is (fun k_ => (spec_MessageOK.mono_l k_) x30 x438000 x438001 x438002 x438003 x438004 x438005 x438006)
theorem spec_MessageOK.v_lim (a0_0 : Int) (a0_1 : Int) (a0_2 : Int) (a0_3 : Int) (a0_4 : ByteArray) (a0_5 : ByteArray) (a0_6 : ByteArray) : LimIs (fun k_ => spec_MessageOK.f k_ a0_0 a0_1 a0_2 a0_3 a0_4 a0_5 a0_6) (spec_MessageOK.v a0_0 a0_1 a0_2 a0_3 a0_4 a0_5 a0_6) := lim_is (fun k_ => spec_MessageOK.mono a0_0 a0_1 a0_2 a0_3 a0_4 a0_5 a0_6 k_)
theorem spec_MessageOK.jv0_eq (x30 : Bool) (x438000 : Int) (x438001 : Int) (x438002 : Int) (x438003 : Int) (x438004 : ByteArray) (x438005 : ByteArray) (x438006 : ByteArray) : spec_MessageOK.jv0 x30 x438000 x438001 x438002 x438003 x438004 x438005 x438006 = (if x30 = true then (some false) else (if x438000 = 1 then ((spec_l01In.v x438002 1 8).bind fun t441 => (if t441 = true then (if (x438004.size : Int) = 32 then (some (x438005.toList != ([] : List UInt8))) else (some false)) else (some false))) else (if x438000 = 2 then ((spec_l01In.v x438002 1 8).bind fun t442 => (if t442 = true then (if (x438004.size : Int) = 32 then (some (x438005.toList == ([] : List UInt8))) else (some false)) else (some false))) else (if x438000 = 3 then ((spec_l01In.v x438002 1 8).bind fun t443 => (if t443 = true then (if (x438004.size : Int) = 32 then (some (x438005.toList == ([] : List UInt8))) else (some false)) else (some false))) else (if x438002 = 0 then (some (x438004.toList == ([] : List UInt8))) else (some false))))) : Option (Bool)) := by
  refine LimIs.eq (spec_MessageOK.jv0_lim x30 x438000 x438001 x438002 x438003 x438004 x438005 x438006) ?_
  refine LimIs.step (fun k_ => (spec_MessageOK.mono_l k_) x30 x438000 x438001 x438002 x438003 x438004 x438005 x438006) ?_
  simp only [spec_MessageOK.j0]
  repeat' (with_reducible first | exact spec_l01In.v_lim _ _ _ | exact LimIs.const _ | refine LimIs.ite ?_ ?_ | refine LimIs.bind ?_ (fun _ => ?_))
theorem spec_MessageOK.v_eq (a0_0 : Int) (a0_1 : Int) (a0_2 : Int) (a0_3 : Int) (a0_4 : ByteArray) (a0_5 : ByteArray) (a0_6 : ByteArray) : spec_MessageOK.v a0_0 a0_1 a0_2 a0_3 a0_4 a0_5 a0_6 = ((spec_l01In.v a0_0 1 5).bind fun t438 => (if t438 = true then ((spec_l01In.v a0_1 0 20).bind fun t439 => (if t439 = true then ((spec_l01In.v a0_3 0 6).bind fun t440 => (if t440 = true then (if (a0_6.size : Int) = 8 then (spec_MessageOK.jv0 (decide ((a0_5.size : Int) > 20000)) a0_0 a0_1 a0_2 a0_3 a0_4 a0_5 a0_6) else (spec_MessageOK.jv0 true a0_0 a0_1 a0_2 a0_3 a0_4 a0_5 a0_6)) else (spec_MessageOK.jv0 true a0_0 a0_1 a0_2 a0_3 a0_4 a0_5 a0_6))) else (spec_MessageOK.jv0 true a0_0 a0_1 a0_2 a0_3 a0_4 a0_5 a0_6))) else (spec_MessageOK.jv0 true a0_0 a0_1 a0_2 a0_3 a0_4 a0_5 a0_6)) : Option (Bool)) := by
  refine LimIs.eq (spec_MessageOK.v_lim a0_0 a0_1 a0_2 a0_3 a0_4 a0_5 a0_6) ?_
  simp only [spec_MessageOK.f]
  repeat' (with_reducible first | exact spec_MessageOK.jv0_lim _ _ _ _ _ _ _ _ | exact spec_l01In.v_lim _ _ _ | exact LimIs.const _ | refine LimIs.ite ?_ ?_ | refine LimIs.bind ?_ (fun _ => ?_))
def spec_l02Plain.f (k : Nat) (a0_0 : Int) (a0_1 : Int) (a0_2 : Int) (a0_3 : Int) (a0_4 : ByteArray) (a0_5 : ByteArray) (a0_6 : ByteArray) : Option (List Int) := (some (([(a0_0) % 256, (a0_1) % 256, (a0_2) % 256, (a0_3) % 256, ((a0_4.size : Int)) % 256] : List Int) : List Int)).bind fun y445 => (if y445.length + a0_4.size < 140737488355328 then ((some (y445 ++ bytesOf a0_4 : List Int)).bind fun y448 => ((spec_l02Number.f k (a0_5.size : Int) 2).bind fun t451 => (if y448.length + t451.length < 140737488355328 then ((some (y448 ++ t451 : List Int)).bind fun y454 => (if y454.length + a0_5.size < 140737488355328 then (some (y454 ++ bytesOf a0_5)) else (none))) else (none)))) else (none))
theorem spec_l02Plain.mono : ∀ a0 a1 a2 a3 a4 a5 a6 k, LeO (spec_l02Plain.f k a0 a1 a2 a3 a4 a5 a6) (spec_l02Plain.f (k + 1) a0 a1 a2 a3 a4 a5 a6) := by
  intro a0 a1 a2 a3 a4 a5 a6 k
  unfold spec_l02Plain.f
  repeat' first
      | (with_reducible exact spec_l02Number.mono _ _ _)
      | (with_reducible exact LeO.refl _)
      | (with_reducible exact LeO.none _)
      | (with_reducible refine LeO.ite ?_ ?_)
      | (with_reducible refine LeO.bind ?_ (fun _ => ?_))
      | exact spec_l02Number.mono _ _ _
      | exact LeO.none _
      | refine LeO.ite ?_ ?_
      | refine LeO.bind ?_ (fun _ => ?_)
noncomputable def spec_l02Plain.v (a0_0 : Int) (a0_1 : Int) (a0_2 : Int) (a0_3 : Int) (a0_4 : ByteArray) (a0_5 : ByteArray) (a0_6 : ByteArray) : Option (List Int) := lim (fun k_ => spec_l02Plain.f k_ a0_0 a0_1 a0_2 a0_3 a0_4 a0_5 a0_6)
theorem spec_l02Plain.v_lim (a0_0 : Int) (a0_1 : Int) (a0_2 : Int) (a0_3 : Int) (a0_4 : ByteArray) (a0_5 : ByteArray) (a0_6 : ByteArray) : LimIs (fun k_ => spec_l02Plain.f k_ a0_0 a0_1 a0_2 a0_3 a0_4 a0_5 a0_6) (spec_l02Plain.v a0_0 a0_1 a0_2 a0_3 a0_4 a0_5 a0_6) := lim_is (fun k_ => spec_l02Plain.mono a0_0 a0_1 a0_2 a0_3 a0_4 a0_5 a0_6 k_)
theorem spec_l02Plain.v_eq (a0_0 : Int) (a0_1 : Int) (a0_2 : Int) (a0_3 : Int) (a0_4 : ByteArray) (a0_5 : ByteArray) (a0_6 : ByteArray) : spec_l02Plain.v a0_0 a0_1 a0_2 a0_3 a0_4 a0_5 a0_6 = ((some (([(a0_0) % 256, (a0_1) % 256, (a0_2) % 256, (a0_3) % 256, ((a0_4.size : Int)) % 256] : List Int) : List Int)).bind fun y445 => (if y445.length + a0_4.size < 140737488355328 then ((some (y445 ++ bytesOf a0_4 : List Int)).bind fun y448 => ((spec_l02Number.v (a0_5.size : Int) 2).bind fun t451 => (if y448.length + t451.length < 140737488355328 then ((some (y448 ++ t451 : List Int)).bind fun y454 => (if y454.length + a0_5.size < 140737488355328 then (some (y454 ++ bytesOf a0_5)) else (none))) else (none)))) else (none)) : Option (List Int)) := by
  refine LimIs.eq (spec_l02Plain.v_lim a0_0 a0_1 a0_2 a0_3 a0_4 a0_5 a0_6) ?_
  simp only [spec_l02Plain.f]
  repeat' (with_reducible first | exact spec_l02Number.v_lim _ _ | exact LimIs.const _ | refine LimIs.ite ?_ ?_ | refine LimIs.bind ?_ (fun _ => ?_))
def spec_l02Message.f (k : Nat) (a0_0 : Int) (a0_1 : Int) (a0_2 : Int) (a0_3 : Int) (a0_4 : ByteArray) (a0_5 : ByteArray) (a0_6 : ByteArray) : Option (List Int) := (spec_l02Plain.f k a0_0 a0_1 a0_2 a0_3 a0_4 a0_5 a0_6).bind fun t461 => (if t461.length + a0_6.size < 140737488355328 then (some (t461 ++ bytesOf a0_6)) else (none))
theorem spec_l02Message.mono : ∀ a0 a1 a2 a3 a4 a5 a6 k, LeO (spec_l02Message.f k a0 a1 a2 a3 a4 a5 a6) (spec_l02Message.f (k + 1) a0 a1 a2 a3 a4 a5 a6) := by
  intro a0 a1 a2 a3 a4 a5 a6 k
  unfold spec_l02Message.f
  repeat' first
      | (with_reducible exact spec_l02Plain.mono _ _ _ _ _ _ _ _)
      | (with_reducible exact LeO.refl _)
      | (with_reducible exact LeO.none _)
      | (with_reducible refine LeO.ite ?_ ?_)
      | (with_reducible refine LeO.bind ?_ (fun _ => ?_))
      | exact spec_l02Plain.mono _ _ _ _ _ _ _ _
      | exact LeO.none _
      | refine LeO.ite ?_ ?_
      | refine LeO.bind ?_ (fun _ => ?_)
noncomputable def spec_l02Message.v (a0_0 : Int) (a0_1 : Int) (a0_2 : Int) (a0_3 : Int) (a0_4 : ByteArray) (a0_5 : ByteArray) (a0_6 : ByteArray) : Option (List Int) := lim (fun k_ => spec_l02Message.f k_ a0_0 a0_1 a0_2 a0_3 a0_4 a0_5 a0_6)
theorem spec_l02Message.v_lim (a0_0 : Int) (a0_1 : Int) (a0_2 : Int) (a0_3 : Int) (a0_4 : ByteArray) (a0_5 : ByteArray) (a0_6 : ByteArray) : LimIs (fun k_ => spec_l02Message.f k_ a0_0 a0_1 a0_2 a0_3 a0_4 a0_5 a0_6) (spec_l02Message.v a0_0 a0_1 a0_2 a0_3 a0_4 a0_5 a0_6) := lim_is (fun k_ => spec_l02Message.mono a0_0 a0_1 a0_2 a0_3 a0_4 a0_5 a0_6 k_)
theorem spec_l02Message.v_eq (a0_0 : Int) (a0_1 : Int) (a0_2 : Int) (a0_3 : Int) (a0_4 : ByteArray) (a0_5 : ByteArray) (a0_6 : ByteArray) : spec_l02Message.v a0_0 a0_1 a0_2 a0_3 a0_4 a0_5 a0_6 = ((spec_l02Plain.v a0_0 a0_1 a0_2 a0_3 a0_4 a0_5 a0_6).bind fun t461 => (if t461.length + a0_6.size < 140737488355328 then (some (t461 ++ bytesOf a0_6)) else (none)) : Option (List Int)) := by
  refine LimIs.eq (spec_l02Message.v_lim a0_0 a0_1 a0_2 a0_3 a0_4 a0_5 a0_6) ?_
  simp only [spec_l02Message.f]
  repeat' (with_reducible first | exact spec_l02Plain.v_lim _ _ _ _ _ _ _ | exact LimIs.const _ | refine LimIs.ite ?_ ?_ | refine LimIs.bind ?_ (fun _ => ?_))
def spec_MessageBytes.f (k : Nat) (a0_0 : Int) (a0_1 : Int) (a0_2 : Int) (a0_3 : Int) (a0_4 : ByteArray) (a0_5 : ByteArray) (a0_6 : ByteArray) : Option (List Int × Int) := (spec_MessageOK.f k a0_0 a0_1 a0_2 a0_3 a0_4 a0_5 a0_6).bind fun t468 => (if t468 = true then ((spec_l02Message.f k a0_0 a0_1 a0_2 a0_3 a0_4 a0_5 a0_6).bind fun t469 => (some (t469, 0))) else (some ((([] : List Int)), 1)))
theorem spec_MessageBytes.mono : ∀ a0 a1 a2 a3 a4 a5 a6 k, LeO (spec_MessageBytes.f k a0 a1 a2 a3 a4 a5 a6) (spec_MessageBytes.f (k + 1) a0 a1 a2 a3 a4 a5 a6) := by
  intro a0 a1 a2 a3 a4 a5 a6 k
  unfold spec_MessageBytes.f
  repeat' first
      | (with_reducible exact spec_MessageOK.mono _ _ _ _ _ _ _ _)
      | (with_reducible exact spec_l02Message.mono _ _ _ _ _ _ _ _)
      | (with_reducible exact LeO.refl _)
      | (with_reducible exact LeO.none _)
      | (with_reducible refine LeO.ite ?_ ?_)
      | (with_reducible refine LeO.bind ?_ (fun _ => ?_))
      | exact spec_MessageOK.mono _ _ _ _ _ _ _ _
      | exact spec_l02Message.mono _ _ _ _ _ _ _ _
      | exact LeO.none _
      | refine LeO.ite ?_ ?_
      | refine LeO.bind ?_ (fun _ => ?_)
noncomputable def spec_MessageBytes.v (a0_0 : Int) (a0_1 : Int) (a0_2 : Int) (a0_3 : Int) (a0_4 : ByteArray) (a0_5 : ByteArray) (a0_6 : ByteArray) : Option (List Int × Int) := lim (fun k_ => spec_MessageBytes.f k_ a0_0 a0_1 a0_2 a0_3 a0_4 a0_5 a0_6)
theorem spec_MessageBytes.v_lim (a0_0 : Int) (a0_1 : Int) (a0_2 : Int) (a0_3 : Int) (a0_4 : ByteArray) (a0_5 : ByteArray) (a0_6 : ByteArray) : LimIs (fun k_ => spec_MessageBytes.f k_ a0_0 a0_1 a0_2 a0_3 a0_4 a0_5 a0_6) (spec_MessageBytes.v a0_0 a0_1 a0_2 a0_3 a0_4 a0_5 a0_6) := lim_is (fun k_ => spec_MessageBytes.mono a0_0 a0_1 a0_2 a0_3 a0_4 a0_5 a0_6 k_)
theorem spec_MessageBytes.v_eq (a0_0 : Int) (a0_1 : Int) (a0_2 : Int) (a0_3 : Int) (a0_4 : ByteArray) (a0_5 : ByteArray) (a0_6 : ByteArray) : spec_MessageBytes.v a0_0 a0_1 a0_2 a0_3 a0_4 a0_5 a0_6 = ((spec_MessageOK.v a0_0 a0_1 a0_2 a0_3 a0_4 a0_5 a0_6).bind fun t468 => (if t468 = true then ((spec_l02Message.v a0_0 a0_1 a0_2 a0_3 a0_4 a0_5 a0_6).bind fun t469 => (some (t469, 0))) else (some ((([] : List Int)), 1))) : Option (List Int × Int)) := by
  refine LimIs.eq (spec_MessageBytes.v_lim a0_0 a0_1 a0_2 a0_3 a0_4 a0_5 a0_6) ?_
  simp only [spec_MessageBytes.f]
  repeat' (with_reducible first | exact spec_MessageOK.v_lim _ _ _ _ _ _ _ | exact spec_l02Message.v_lim _ _ _ _ _ _ _ | exact LimIs.const _ | refine LimIs.ite ?_ ?_ | refine LimIs.bind ?_ (fun _ => ?_))
def impl_reader_done.f (s0_0 : ByteArray) (s0_1 : Bool) : Option (Bool × ByteArray × Bool) := if s0_1 = true then (some (false, s0_0, s0_1)) else (some ((s0_0.toList == ([] : List UInt8)), s0_0, s0_1))
def impl_reader_done.v (s0_0 : ByteArray) (s0_1 : Bool) : Option (Bool × ByteArray × Bool) := impl_reader_done.f s0_0 s0_1
theorem impl_reader_done.v_lim (s0_0 : ByteArray) (s0_1 : Bool) : LimIs (fun _ => impl_reader_done.f s0_0 s0_1) (impl_reader_done.v s0_0 s0_1) := LimIs.const _
theorem impl_reader_done.v_eq (s0_0 : ByteArray) (s0_1 : Bool) : impl_reader_done.v s0_0 s0_1 = (if s0_1 = true then (some (false, s0_0, s0_1)) else (some ((s0_0.toList == ([] : List UInt8)), s0_0, s0_1)) : Option (Bool × ByteArray × Bool)) := rfl
def impl_reader_take.f (s0_0 : ByteArray) (s0_1 : Bool) (a1 : Int) : Option (ByteArray × ByteArray × Bool) := if s0_1 = true then (some ((⟨#[]⟩ : ByteArray), s0_0, true)) else (if a1 > (s0_0.size : Int) then (some ((⟨#[]⟩ : ByteArray), s0_0, true)) else (if 0 ≤ a1 then (if a1 ≤ (s0_0.size : Int) then (some (s0_0.extract 0 (a1 : Int).toNat, s0_0.extract (a1 : Int).toNat s0_0.size, s0_1)) else (none)) else (none)))
def impl_reader_take.v (s0_0 : ByteArray) (s0_1 : Bool) (a1 : Int) : Option (ByteArray × ByteArray × Bool) := impl_reader_take.f s0_0 s0_1 a1
theorem impl_reader_take.v_lim (s0_0 : ByteArray) (s0_1 : Bool) (a1 : Int) : LimIs (fun _ => impl_reader_take.f s0_0 s0_1 a1) (impl_reader_take.v s0_0 s0_1 a1) := LimIs.const _
theorem impl_reader_take.v_eq (s0_0 : ByteArray) (s0_1 : Bool) (a1 : Int) : impl_reader_take.v s0_0 s0_1 a1 = (if s0_1 = true then (some ((⟨#[]⟩ : ByteArray), s0_0, true)) else (if a1 > (s0_0.size : Int) then (some ((⟨#[]⟩ : ByteArray), s0_0, true)) else (if 0 ≤ a1 then (if a1 ≤ (s0_0.size : Int) then (some (s0_0.extract 0 (a1 : Int).toNat, s0_0.extract (a1 : Int).toNat s0_0.size, s0_1)) else (none)) else (none))) : Option (ByteArray × ByteArray × Bool)) := rfl
def impl_reader_number.l0 : Nat → Int → List Int → Int → Int → ByteArray → Bool → Option (Int × ByteArray × Bool)
  | 0, _, _, _, _, _, _ => none
  | k + 1, x5, x11, x12, x13, x1000, x1001 => if x13 < x12 then (if 0 ≤ x13 then (if x13 < (x11.length : Int) then (impl_reader_number.l0 k (Go.bits .or .i64 (wrap64 (x5 * 256)) (wrap64 (rd x11 x13))) x11 x12 (wrap64 (x13 + 1)) x1000 x1001) else (none)) else (none)) else (some (x5, x1000, x1001))
def impl_reader_number.f (k : Nat) (s0_0 : ByteArray) (s0_1 : Bool) (a1 : Int) : Option (Int × ByteArray × Bool) := (impl_reader_take.f s0_0 s0_1 a1).bind fun bt475 => (if bt475.1.size ≤ 140737488355328 then ((some (bytesOf bt475.1 : List Int)).bind fun y478 => (impl_reader_number.l0 k 0 y478 (y478.length : Int) 0 bt475.2.1 bt475.2.2)) else (none))
theorem impl_reader_number.mono_l : ∀ k, (∀ y0 y1 y2 y3 y4 y5, LeO (impl_reader_number.l0 k y0 y1 y2 y3 y4 y5) (impl_reader_number.l0 (k + 1) y0 y1 y2 y3 y4 y5))
  | 0 => fun _ _ _ _ _ _ r h => by simp [impl_reader_number.l0] at h
  | k + 1 => by
    have ih0 := impl_reader_number.mono_l k
    · intro y0 y1 y2 y3 y4 y5
      unfold impl_reader_number.l0
      repeat' first
      | (with_reducible exact ih0 _ _ _ _ _ _)
      | (with_reducible exact LeO.refl _)
      | (with_reducible exact LeO.none _)
      | (with_reducible refine LeO.ite ?_ ?_)
      | (with_reducible refine LeO.bind ?_ (fun _ => ?_))
      | exact ih0 _ _ _ _ _ _
      | exact LeO.none _
      | refine LeO.ite ?_ ?_
      | refine LeO.bind ?_ (fun _ => ?_)
theorem impl_reader_number.mono : ∀ a0 a1 a2 k, LeO (impl_reader_number.f k a0 a1 a2) (impl_reader_number.f (k + 1) a0 a1 a2) := by
  intro a0 a1 a2 k
  have ih0 := impl_reader_number.mono_l k
  unfold impl_reader_number.f
  repeat' first
      | (with_reducible exact ih0 _ _ _ _ _ _)
      | (with_reducible exact LeO.refl _)
      | (with_reducible exact LeO.none _)
      | (with_reducible refine LeO.ite ?_ ?_)
      | (with_reducible refine LeO.bind ?_ (fun _ => ?_))
      | exact ih0 _ _ _ _ _ _
      | exact LeO.none _
      | refine LeO.ite ?_ ?_
      | refine LeO.bind ?_ (fun _ => ?_)
noncomputable def impl_reader_number.lv0 (x5 : Int) (x11 : List Int) (x12 : Int) (x13 : Int) (x1000 : ByteArray) (x1001 : Bool) : Option (Int × ByteArray × Bool) := lim (fun k_ => impl_reader_number.l0 k_ x5 x11 x12 x13 x1000 x1001)
noncomputable def impl_reader_number.v (s0_0 : ByteArray) (s0_1 : Bool) (a1 : Int) : Option (Int × ByteArray × Bool) := lim (fun k_ => impl_reader_number.f k_ s0_0 s0_1 a1)
theorem impl_reader_number.lv0_lim (x5 : Int) (x11 : List Int) (x12 : Int) (x13 : Int) (x1000 : ByteArray) (x1001 : Bool) : LimIs (fun k_ => impl_reader_number.l0 k_ x5 x11 x12 x13 x1000 x1001) (impl_reader_number.lv0 x5 x11 x12 x13 x1000 x1001) := lim_is (fun k_ => (impl_reader_number.mono_l k_) x5 x11 x12 x13 x1000 x1001)
theorem impl_reader_number.v_lim (s0_0 : ByteArray) (s0_1 : Bool) (a1 : Int) : LimIs (fun k_ => impl_reader_number.f k_ s0_0 s0_1 a1) (impl_reader_number.v s0_0 s0_1 a1) := lim_is (fun k_ => impl_reader_number.mono s0_0 s0_1 a1 k_)
theorem impl_reader_number.lv0_eq (x5 : Int) (x11 : List Int) (x12 : Int) (x13 : Int) (x1000 : ByteArray) (x1001 : Bool) : impl_reader_number.lv0 x5 x11 x12 x13 x1000 x1001 = (if x13 < x12 then (if 0 ≤ x13 then (if x13 < (x11.length : Int) then (impl_reader_number.lv0 (Go.bits .or .i64 (wrap64 (x5 * 256)) (wrap64 (rd x11 x13))) x11 x12 (wrap64 (x13 + 1)) x1000 x1001) else (none)) else (none)) else (some (x5, x1000, x1001)) : Option (Int × ByteArray × Bool)) := by
  refine LimIs.eq (impl_reader_number.lv0_lim x5 x11 x12 x13 x1000 x1001) ?_
  refine LimIs.step (fun k_ => (impl_reader_number.mono_l k_) x5 x11 x12 x13 x1000 x1001) ?_
  simp only [impl_reader_number.l0]
  repeat' (with_reducible first | exact impl_reader_number.lv0_lim _ _ _ _ _ _ | exact LimIs.const _ | refine LimIs.ite ?_ ?_ | refine LimIs.bind ?_ (fun _ => ?_))
theorem impl_reader_number.v_eq (s0_0 : ByteArray) (s0_1 : Bool) (a1 : Int) : impl_reader_number.v s0_0 s0_1 a1 = ((impl_reader_take.v s0_0 s0_1 a1).bind fun bt475 => (if bt475.1.size ≤ 140737488355328 then ((some (bytesOf bt475.1 : List Int)).bind fun y478 => (impl_reader_number.lv0 0 y478 (y478.length : Int) 0 bt475.2.1 bt475.2.2)) else (none)) : Option (Int × ByteArray × Bool)) := by
  refine LimIs.eq (impl_reader_number.v_lim s0_0 s0_1 a1) ?_
  simp only [impl_reader_number.f]
  repeat' (with_reducible first | exact impl_reader_number.lv0_lim _ _ _ _ _ _ | exact impl_reader_take.v_lim _ _ _ | exact LimIs.const _ | refine LimIs.ite ?_ ?_ | refine LimIs.bind ?_ (fun _ => ?_))
def impl_reader_sized.f (k : Nat) (s0_0 : ByteArray) (s0_1 : Bool) (a1 : Int) : Option (ByteArray × ByteArray × Bool) := (impl_reader_number.f k s0_0 s0_1 a1).bind fun bt482 => ((impl_reader_take.f bt482.2.1 bt482.2.2 bt482.1).bind fun bt485 => (some (bt485.1, bt485.2.1, bt485.2.2)))
theorem impl_reader_sized.mono : ∀ a0 a1 a2 k, LeO (impl_reader_sized.f k a0 a1 a2) (impl_reader_sized.f (k + 1) a0 a1 a2) := by
  intro a0 a1 a2 k
  unfold impl_reader_sized.f
  repeat' first
      | (with_reducible exact impl_reader_number.mono _ _ _ _)
      | (with_reducible exact LeO.refl _)
      | (with_reducible exact LeO.none _)
      | (with_reducible refine LeO.ite ?_ ?_)
      | (with_reducible refine LeO.bind ?_ (fun _ => ?_))
      | exact impl_reader_number.mono _ _ _ _
      | exact LeO.none _
      | refine LeO.ite ?_ ?_
      | refine LeO.bind ?_ (fun _ => ?_)
noncomputable def impl_reader_sized.v (s0_0 : ByteArray) (s0_1 : Bool) (a1 : Int) : Option (ByteArray × ByteArray × Bool) := lim (fun k_ => impl_reader_sized.f k_ s0_0 s0_1 a1)
theorem impl_reader_sized.v_lim (s0_0 : ByteArray) (s0_1 : Bool) (a1 : Int) : LimIs (fun k_ => impl_reader_sized.f k_ s0_0 s0_1 a1) (impl_reader_sized.v s0_0 s0_1 a1) := lim_is (fun k_ => impl_reader_sized.mono s0_0 s0_1 a1 k_)
theorem impl_reader_sized.v_eq (s0_0 : ByteArray) (s0_1 : Bool) (a1 : Int) : impl_reader_sized.v s0_0 s0_1 a1 = ((impl_reader_number.v s0_0 s0_1 a1).bind fun bt482 => ((impl_reader_take.v bt482.2.1 bt482.2.2 bt482.1).bind fun bt485 => (some (bt485.1, bt485.2.1, bt485.2.2))) : Option (ByteArray × ByteArray × Bool)) := by
  refine LimIs.eq (impl_reader_sized.v_lim s0_0 s0_1 a1) ?_
  simp only [impl_reader_sized.f]
  repeat' (with_reducible first | exact impl_reader_number.v_lim _ _ _ | exact impl_reader_take.v_lim _ _ _ | exact LimIs.const _ | refine LimIs.ite ?_ ?_ | refine LimIs.bind ?_ (fun _ => ?_))
def impl_readMessage.f (k : Nat) (a0 : ByteArray) : Option (Int × Int × Int × Int × ByteArray × ByteArray × ByteArray × Bool) := (impl_reader_number.f k a0 false 1).bind fun bt490 => ((impl_reader_number.f k bt490.2.1 bt490.2.2 1).bind fun bt493 => ((impl_reader_number.f k bt493.2.1 bt493.2.2 1).bind fun bt496 => ((impl_reader_number.f k bt496.2.1 bt496.2.2 1).bind fun bt499 => ((impl_reader_sized.f k bt499.2.1 bt499.2.2 1).bind fun bt502 => ((impl_reader_sized.f k bt502.2.1 bt502.2.2 2).bind fun bt505 => ((impl_reader_take.f bt505.2.1 bt505.2.2 8).bind fun bt508 => ((impl_reader_done.f bt508.2.1 bt508.2.2).bind fun bt512 => (if bt512.1 = true then ((impl_MessageOK.f k bt490.1 bt493.1 bt496.1 bt499.1 bt502.1 bt505.1 bt508.1).bind fun t515 => (if t515 = true then (some (bt490.1, bt493.1, bt496.1, bt499.1, bt502.1, bt505.1, bt508.1, true)) else (some (0, 0, 0, 0, (⟨#[]⟩ : ByteArray), (⟨#[]⟩ : ByteArray), (⟨#[]⟩ : ByteArray), false)))) else (some (0, 0, 0, 0, (⟨#[]⟩ : ByteArray), (⟨#[]⟩ : ByteArray), (⟨#[]⟩ : ByteArray), false))))))))))
theorem impl_readMessage.mono : ∀ a0 k, LeO (impl_readMessage.f k a0) (impl_readMessage.f (k + 1) a0) := by
  intro a0 k
  unfold impl_readMessage.f
  repeat' first
      | (with_reducible exact impl_MessageOK.mono _ _ _ _ _ _ _ _)
      | (with_reducible exact impl_reader_number.mono _ _ _ _)
      | (with_reducible exact impl_reader_sized.mono _ _ _ _)
      | (with_reducible exact LeO.refl _)
      | (with_reducible exact LeO.none _)
      | (with_reducible refine LeO.ite ?_ ?_)
      | (with_reducible refine LeO.bind ?_ (fun _ => ?_))
      | exact impl_MessageOK.mono _ _ _ _ _ _ _ _
      | exact impl_reader_number.mono _ _ _ _
      | exact impl_reader_sized.mono _ _ _ _
      | exact LeO.none _
      | refine LeO.ite ?_ ?_
      | refine LeO.bind ?_ (fun _ => ?_)
noncomputable def impl_readMessage.v (a0 : ByteArray) : Option (Int × Int × Int × Int × ByteArray × ByteArray × ByteArray × Bool) := lim (fun k_ => impl_readMessage.f k_ a0)
theorem impl_readMessage.v_lim (a0 : ByteArray) : LimIs (fun k_ => impl_readMessage.f k_ a0) (impl_readMessage.v a0) := lim_is (fun k_ => impl_readMessage.mono a0 k_)
theorem impl_readMessage.v_eq (a0 : ByteArray) : impl_readMessage.v a0 = ((impl_reader_number.v a0 false 1).bind fun bt490 => ((impl_reader_number.v bt490.2.1 bt490.2.2 1).bind fun bt493 => ((impl_reader_number.v bt493.2.1 bt493.2.2 1).bind fun bt496 => ((impl_reader_number.v bt496.2.1 bt496.2.2 1).bind fun bt499 => ((impl_reader_sized.v bt499.2.1 bt499.2.2 1).bind fun bt502 => ((impl_reader_sized.v bt502.2.1 bt502.2.2 2).bind fun bt505 => ((impl_reader_take.v bt505.2.1 bt505.2.2 8).bind fun bt508 => ((impl_reader_done.v bt508.2.1 bt508.2.2).bind fun bt512 => (if bt512.1 = true then ((impl_MessageOK.v bt490.1 bt493.1 bt496.1 bt499.1 bt502.1 bt505.1 bt508.1).bind fun t515 => (if t515 = true then (some (bt490.1, bt493.1, bt496.1, bt499.1, bt502.1, bt505.1, bt508.1, true)) else (some (0, 0, 0, 0, (⟨#[]⟩ : ByteArray), (⟨#[]⟩ : ByteArray), (⟨#[]⟩ : ByteArray), false)))) else (some (0, 0, 0, 0, (⟨#[]⟩ : ByteArray), (⟨#[]⟩ : ByteArray), (⟨#[]⟩ : ByteArray), false)))))))))) : Option (Int × Int × Int × Int × ByteArray × ByteArray × ByteArray × Bool)) := by
  refine LimIs.eq (impl_readMessage.v_lim a0) ?_
  simp only [impl_readMessage.f]
  repeat' (with_reducible first | exact impl_MessageOK.v_lim _ _ _ _ _ _ _ | exact impl_reader_done.v_lim _ _ | exact impl_reader_number.v_lim _ _ _ | exact impl_reader_sized.v_lim _ _ _ | exact impl_reader_take.v_lim _ _ _ | exact LimIs.const _ | refine LimIs.ite ?_ ?_ | refine LimIs.bind ?_ (fun _ => ?_))
def impl_ReadMessage.f (k : Nat) (l0 : List Int) : Option (Int × Int × Int × Int × ByteArray × ByteArray × ByteArray × Int) := if (l0.length : Int) > 65536 then (some (0, 0, 0, 0, (⟨#[]⟩ : ByteArray), (⟨#[]⟩ : ByteArray), (⟨#[]⟩ : ByteArray), 2)) else ((impl_readMessage.f k (strOfNums l0)).bind fun bt517 => (if bt517.2.2.2.2.2.2.2 = true then (some (bt517.1, bt517.2.1, bt517.2.2.1, bt517.2.2.2.1, bt517.2.2.2.2.1, bt517.2.2.2.2.2.1, bt517.2.2.2.2.2.2.1, 0)) else (some (0, 0, 0, 0, (⟨#[]⟩ : ByteArray), (⟨#[]⟩ : ByteArray), (⟨#[]⟩ : ByteArray), 3))))
theorem impl_ReadMessage.mono : ∀ a0 k, LeO (impl_ReadMessage.f k a0) (impl_ReadMessage.f (k + 1) a0) := by
  intro a0 k
  unfold impl_ReadMessage.f
  repeat' first
      | (with_reducible exact impl_readMessage.mono _ _)
      | (with_reducible exact LeO.refl _)
      | (with_reducible exact LeO.none _)
      | (with_reducible refine LeO.ite ?_ ?_)
      | (with_reducible refine LeO.bind ?_ (fun _ => ?_))
      | exact impl_readMessage.mono _ _
      | exact LeO.none _
      | refine LeO.ite ?_ ?_
      | refine LeO.bind ?_ (fun _ => ?_)
noncomputable def impl_ReadMessage.v (l0 : List Int) : Option (Int × Int × Int × Int × ByteArray × ByteArray × ByteArray × Int) := lim (fun k_ => impl_ReadMessage.f k_ l0)
theorem impl_ReadMessage.v_lim (l0 : List Int) : LimIs (fun k_ => impl_ReadMessage.f k_ l0) (impl_ReadMessage.v l0) := lim_is (fun k_ => impl_ReadMessage.mono l0 k_)
theorem impl_ReadMessage.v_eq (l0 : List Int) : impl_ReadMessage.v l0 = (if (l0.length : Int) > 65536 then (some (0, 0, 0, 0, (⟨#[]⟩ : ByteArray), (⟨#[]⟩ : ByteArray), (⟨#[]⟩ : ByteArray), 2)) else ((impl_readMessage.v (strOfNums l0)).bind fun bt517 => (if bt517.2.2.2.2.2.2.2 = true then (some (bt517.1, bt517.2.1, bt517.2.2.1, bt517.2.2.2.1, bt517.2.2.2.2.1, bt517.2.2.2.2.2.1, bt517.2.2.2.2.2.2.1, 0)) else (some (0, 0, 0, 0, (⟨#[]⟩ : ByteArray), (⟨#[]⟩ : ByteArray), (⟨#[]⟩ : ByteArray), 3)))) : Option (Int × Int × Int × Int × ByteArray × ByteArray × ByteArray × Int)) := by
  refine LimIs.eq (impl_ReadMessage.v_lim l0) ?_
  simp only [impl_ReadMessage.f]
  repeat' (with_reducible first | exact impl_readMessage.v_lim _ | exact LimIs.const _ | refine LimIs.ite ?_ ?_ | refine LimIs.bind ?_ (fun _ => ?_))
def spec_l02Of.l0 : Nat → ByteArray → Int → Int → Option (Int)
  | 0, _, _, _ => none
  | k + 1, x0, x3, x4 => if x4 < (x0.size : Int) then (if 0 ≤ x4 then (spec_l02Of.l0 k x0 (wrap64 ((wrap64 (x3 * 256)) + (wrap64 (bt x0 x4)))) (wrap64 (x4 + 1))) else (none)) else (some x3)
def spec_l02Of.f (k : Nat) (a0 : ByteArray) : Option (Int) := spec_l02Of.l0 k a0 0 0
theorem spec_l02Of.mono_l : ∀ k, (∀ y0 y1 y2, LeO (spec_l02Of.l0 k y0 y1 y2) (spec_l02Of.l0 (k + 1) y0 y1 y2))
  | 0 => fun _ _ _ r h => by simp [spec_l02Of.l0] at h
  | k + 1 => by
    have ih0 := spec_l02Of.mono_l k
    · intro y0 y1 y2
      unfold spec_l02Of.l0
      repeat' first
      | (with_reducible exact ih0 _ _ _)
      | (with_reducible exact LeO.refl _)
      | (with_reducible exact LeO.none _)
      | (with_reducible refine LeO.ite ?_ ?_)
      | (with_reducible refine LeO.bind ?_ (fun _ => ?_))
      | exact ih0 _ _ _
      | exact LeO.none _
      | refine LeO.ite ?_ ?_
      | refine LeO.bind ?_ (fun _ => ?_)
theorem spec_l02Of.mono : ∀ a0 k, LeO (spec_l02Of.f k a0) (spec_l02Of.f (k + 1) a0) := by
  intro a0 k
  have ih0 := spec_l02Of.mono_l k
  unfold spec_l02Of.f
  repeat' first
      | (with_reducible exact ih0 _ _ _)
      | (with_reducible exact LeO.refl _)
      | (with_reducible exact LeO.none _)
      | (with_reducible refine LeO.ite ?_ ?_)
      | (with_reducible refine LeO.bind ?_ (fun _ => ?_))
      | exact ih0 _ _ _
      | exact LeO.none _
      | refine LeO.ite ?_ ?_
      | refine LeO.bind ?_ (fun _ => ?_)
noncomputable def spec_l02Of.lv0 (x0 : ByteArray) (x3 : Int) (x4 : Int) : Option (Int) := lim (fun k_ => spec_l02Of.l0 k_ x0 x3 x4)
noncomputable def spec_l02Of.v (a0 : ByteArray) : Option (Int) := lim (fun k_ => spec_l02Of.f k_ a0)
theorem spec_l02Of.lv0_lim (x0 : ByteArray) (x3 : Int) (x4 : Int) : LimIs (fun k_ => spec_l02Of.l0 k_ x0 x3 x4) (spec_l02Of.lv0 x0 x3 x4) := lim_is (fun k_ => (spec_l02Of.mono_l k_) x0 x3 x4)
theorem spec_l02Of.v_lim (a0 : ByteArray) : LimIs (fun k_ => spec_l02Of.f k_ a0) (spec_l02Of.v a0) := lim_is (fun k_ => spec_l02Of.mono a0 k_)
theorem spec_l02Of.lv0_eq (x0 : ByteArray) (x3 : Int) (x4 : Int) : spec_l02Of.lv0 x0 x3 x4 = (if x4 < (x0.size : Int) then (if 0 ≤ x4 then (spec_l02Of.lv0 x0 (wrap64 ((wrap64 (x3 * 256)) + (wrap64 (bt x0 x4)))) (wrap64 (x4 + 1))) else (none)) else (some x3) : Option (Int)) := by
  refine LimIs.eq (spec_l02Of.lv0_lim x0 x3 x4) ?_
  refine LimIs.step (fun k_ => (spec_l02Of.mono_l k_) x0 x3 x4) ?_
  simp only [spec_l02Of.l0]
  repeat' (with_reducible first | exact spec_l02Of.lv0_lim _ _ _ | exact LimIs.const _ | refine LimIs.ite ?_ ?_ | refine LimIs.bind ?_ (fun _ => ?_))
theorem spec_l02Of.v_eq (a0 : ByteArray) : spec_l02Of.v a0 = (spec_l02Of.lv0 a0 0 0 : Option (Int)) := by
  refine LimIs.eq (spec_l02Of.v_lim a0) ?_
  simp only [spec_l02Of.f]
  repeat' (with_reducible first | exact spec_l02Of.lv0_lim _ _ _ | exact LimIs.const _ | refine LimIs.ite ?_ ?_ | refine LimIs.bind ?_ (fun _ => ?_))
def spec_l02ReadMessage.j0 : Nat → ByteArray → Bool → Option (Int × Int × Int × Int × ByteArray × ByteArray × ByteArray × Bool)
  | 0, _, _ => none
  | k + 1, x0, x18 => if x18 = true then (some (0, 0, 0, 0, (⟨#[]⟩ : ByteArray), (⟨#[]⟩ : ByteArray), (⟨#[]⟩ : ByteArray), false)) else (if 4 < (x0.size : Int) then (if 0 ≤ (wrap64 (5 + (wrap64 (bt x0 4)))) then (if (wrap64 (5 + (wrap64 (bt x0 4)))) ≤ (wrap64 ((wrap64 (5 + (wrap64 (bt x0 4)))) + 2)) then (if (wrap64 ((wrap64 (5 + (wrap64 (bt x0 4)))) + 2)) ≤ (x0.size : Int) then ((spec_l02Of.f k (x0.extract ((wrap64 (5 + (wrap64 (bt x0 4)))) : Int).toNat ((wrap64 ((wrap64 (5 + (wrap64 (bt x0 4)))) + 2)) : Int).toNat)).bind fun t527 => (if (x0.size : Int) = (wrap64 ((wrap64 ((wrap64 ((wrap64 (5 + (wrap64 (bt x0 4)))) + 2)) + t527)) + 8)) then (if 0 < (x0.size : Int) then (if 1 < (x0.size : Int) then (if 2 < (x0.size : Int) then (if 3 < (x0.size : Int) then (if 5 ≤ (wrap64 (5 + (wrap64 (bt x0 4)))) then (if (wrap64 (5 + (wrap64 (bt x0 4)))) ≤ (x0.size : Int) then (if 0 ≤ (wrap64 ((wrap64 (5 + (wrap64 (bt x0 4)))) + 2)) then (if (wrap64 ((wrap64 (5 + (wrap64 (bt x0 4)))) + 2)) ≤ (wrap64 ((wrap64 ((wrap64 (5 + (wrap64 (bt x0 4)))) + 2)) + t527)) then (if (wrap64 ((wrap64 ((wrap64 (5 + (wrap64 (bt x0 4)))) + 2)) + t527)) ≤ (x0.size : Int) then (if 0 ≤ (wrap64 ((wrap64 ((wrap64 (5 + (wrap64 (bt x0 4)))) + 2)) + t527)) then ((spec_MessageOK.f k (wrap64 (bt x0 0)) (wrap64 (bt x0 1)) (wrap64 (bt x0 2)) (wrap64 (bt x0 3)) (x0.extract 5 ((wrap64 (5 + (wrap64 (bt x0 4)))) : Int).toNat) (x0.extract ((wrap64 ((wrap64 (5 + (wrap64 (bt x0 4)))) + 2)) : Int).toNat ((wrap64 ((wrap64 ((wrap64 (5 + (wrap64 (bt x0 4)))) + 2)) + t527)) : Int).toNat) (x0.extract ((wrap64 ((wrap64 ((wrap64 (5 + (wrap64 (bt x0 4)))) + 2)) + t527)) : Int).toNat x0.size)).bind fun t529 => (some (wrap64 (bt x0 0), wrap64 (bt x0 1), wrap64 (bt x0 2), wrap64 (bt x0 3), x0.extract 5 ((wrap64 (5 + (wrap64 (bt x0 4)))) : Int).toNat, x0.extract ((wrap64 ((wrap64 (5 + (wrap64 (bt x0 4)))) + 2)) : Int).toNat ((wrap64 ((wrap64 ((wrap64 (5 + (wrap64 (bt x0 4)))) + 2)) + t527)) : Int).toNat, x0.extract ((wrap64 ((wrap64 ((wrap64 (5 + (wrap64 (bt x0 4)))) + 2)) + t527)) : Int).toNat x0.size, t529))) else (none)) else (none)) else (none)) else (none)) else (none)) else (none)) else (none)) else (none)) else (none)) else (none)) else (some (0, 0, 0, 0, (⟨#[]⟩ : ByteArray), (⟨#[]⟩ : ByteArray), (⟨#[]⟩ : ByteArray), false)))) else (none)) else (none)) else (none)) else (none))
def spec_l02ReadMessage.f (k : Nat) (a0 : ByteArray) : Option (Int × Int × Int × Int × ByteArray × ByteArray × ByteArray × Bool) := if (a0.size : Int) < 7 then (spec_l02ReadMessage.j0 k a0 true) else (if 4 < (a0.size : Int) then (spec_l02ReadMessage.j0 k a0 (decide ((a0.size : Int) < (wrap64 (7 + (wrap64 (bt a0 4))))))) else (none))
theorem spec_l02ReadMessage.mono_l : ∀ k, (∀ y0 y1, LeO (spec_l02ReadMessage.j0 k y0 y1) (spec_l02ReadMessage.j0 (k + 1) y0 y1))
  | 0 => fun _ _ r h => by simp [spec_l02ReadMessage.j0] at h
  | k + 1 => by
    have ih0 := spec_l02ReadMessage.mono_l k
    · intro y0 y1
      unfold spec_l02ReadMessage.j0
      repeat' first
      | (with_reducible exact ih0 _ _)
      | (with_reducible exact spec_MessageOK.mono _ _ _ _ _ _ _ _)
      | (with_reducible exact spec_l02Of.mono _ _)
      | (with_reducible exact LeO.refl _)
      | (with_reducible exact LeO.none _)
      | (with_reducible refine LeO.ite ?_ ?_)
      | (with_reducible refine LeO.bind ?_ (fun _ => ?_))
      | exact ih0 _ _
      | exact spec_MessageOK.mono _ _ _ _ _ _ _ _
      | exact spec_l02Of.mono _ _
      | exact LeO.none _
      | refine LeO.ite ?_ ?_
      | refine LeO.bind ?_ (fun _ => ?_)
theorem spec_l02ReadMessage.mono : ∀ a0 k, LeO (spec_l02ReadMessage.f k a0) (spec_l02ReadMessage.f (k + 1) a0) := by
  intro a0 k
  have ih0 := spec_l02ReadMessage.mono_l k
  unfold spec_l02ReadMessage.f
  repeat' first
      | (with_reducible exact ih0 _ _)
      | (with_reducible exact spec_MessageOK.mono _ _ _ _ _ _ _ _)
      | (with_reducible exact spec_l02Of.mono _ _)
      | (with_reducible exact LeO.refl _)
      | (with_reducible exact LeO.none _)
      | (with_reducible refine LeO.ite ?_ ?_)
      | (with_reducible refine LeO.bind ?_ (fun _ => ?_))
      | exact ih0 _ _
      | exact spec_MessageOK.mono _ _ _ _ _ _ _ _
      | exact spec_l02Of.mono _ _
      | exact LeO.none _
      | refine LeO.ite ?_ ?_
      | refine LeO.bind ?_ (fun _ => ?_)
noncomputable def spec_l02ReadMessage.jv0 (x0 : ByteArray) (x18 : Bool) : Option (Int × Int × Int × Int × ByteArray × ByteArray × ByteArray × Bool) := lim (fun k_ => spec_l02ReadMessage.j0 k_ x0 x18)
noncomputable def spec_l02ReadMessage.v (a0 : ByteArray) : Option (Int × Int × Int × Int × ByteArray × ByteArray × ByteArray × Bool) := lim (fun k_ => spec_l02ReadMessage.f k_ a0)
theorem spec_l02ReadMessage.jv0_lim (x0 : ByteArray) (x18 : Bool) : LimIs (fun k_ => spec_l02ReadMessage.j0 k_ x0 x18) (spec_l02ReadMessage.jv0 x0 x18) := lim_is (fun k_ => (spec_l02ReadMessage.mono_l k_) x0 x18)
theorem spec_l02ReadMessage.v_lim (a0 : ByteArray) : LimIs (fun k_ => spec_l02ReadMessage.f k_ a0) (spec_l02ReadMessage.v a0) := lim_is (fun k_ => spec_l02ReadMessage.mono a0 k_)
theorem spec_l02ReadMessage.jv0_eq (x0 : ByteArray) (x18 : Bool) : spec_l02ReadMessage.jv0 x0 x18 = (if x18 = true then (some (0, 0, 0, 0, (⟨#[]⟩ : ByteArray), (⟨#[]⟩ : ByteArray), (⟨#[]⟩ : ByteArray), false)) else (if 4 < (x0.size : Int) then (if 0 ≤ (wrap64 (5 + (wrap64 (bt x0 4)))) then (if (wrap64 (5 + (wrap64 (bt x0 4)))) ≤ (wrap64 ((wrap64 (5 + (wrap64 (bt x0 4)))) + 2)) then (if (wrap64 ((wrap64 (5 + (wrap64 (bt x0 4)))) + 2)) ≤ (x0.size : Int) then ((spec_l02Of.v (x0.extract ((wrap64 (5 + (wrap64 (bt x0 4)))) : Int).toNat ((wrap64 ((wrap64 (5 + (wrap64 (bt x0 4)))) + 2)) : Int).toNat)).bind fun t527 => (if (x0.size : Int) = (wrap64 ((wrap64 ((wrap64 ((wrap64 (5 + (wrap64 (bt x0 4)))) + 2)) + t527)) + 8)) then (if 0 < (x0.size : Int) then (if 1 < (x0.size : Int) then (if 2 < (x0.size : Int) then (if 3 < (x0.size : Int) then (if 5 ≤ (wrap64 (5 + (wrap64 (bt x0 4)))) then (if (wrap64 (5 + (wrap64 (bt x0 4)))) ≤ (x0.size : Int) then (if 0 ≤ (wrap64 ((wrap64 (5 + (wrap64 (bt x0 4)))) + 2)) then (if (wrap64 ((wrap64 (5 + (wrap64 (bt x0 4)))) + 2)) ≤ (wrap64 ((wrap64 ((wrap64 (5 + (wrap64 (bt x0 4)))) + 2)) + t527)) then (if (wrap64 ((wrap64 ((wrap64 (5 + (wrap64 (bt x0 4)))) + 2)) + t527)) ≤ (x0.size : Int) then (if 0 ≤ (wrap64 ((wrap64 ((wrap64 (5 + (wrap64 (bt x0 4)))) + 2)) + t527)) then ((spec_MessageOK.v (wrap64 (bt x0 0)) (wrap64 (bt x0 1)) (wrap64 (bt x0 2)) (wrap64 (bt x0 3)) (x0.extract 5 ((wrap64 (5 + (wrap64 (bt x0 4)))) : Int).toNat) (x0.extract ((wrap64 ((wrap64 (5 + (wrap64 (bt x0 4)))) + 2)) : Int).toNat ((wrap64 ((wrap64 ((wrap64 (5 + (wrap64 (bt x0 4)))) + 2)) + t527)) : Int).toNat) (x0.extract ((wrap64 ((wrap64 ((wrap64 (5 + (wrap64 (bt x0 4)))) + 2)) + t527)) : Int).toNat x0.size)).bind fun t529 => (some (wrap64 (bt x0 0), wrap64 (bt x0 1), wrap64 (bt x0 2), wrap64 (bt x0 3), x0.extract 5 ((wrap64 (5 + (wrap64 (bt x0 4)))) : Int).toNat, x0.extract ((wrap64 ((wrap64 (5 + (wrap64 (bt x0 4)))) + 2)) : Int).toNat ((wrap64 ((wrap64 ((wrap64 (5 + (wrap64 (bt x0 4)))) + 2)) + t527)) : Int).toNat, x0.extract ((wrap64 ((wrap64 ((wrap64 (5 + (wrap64 (bt x0 4)))) + 2)) + t527)) : Int).toNat x0.size, t529))) else (none)) else (none)) else (none)) else (none)) else (none)) else (none)) else (none)) else (none)) else (none)) else (none)) else (some (0, 0, 0, 0, (⟨#[]⟩ : ByteArray), (⟨#[]⟩ : ByteArray), (⟨#[]⟩ : ByteArray), false)))) else (none)) else (none)) else (none)) else (none)) : Option (Int × Int × Int × Int × ByteArray × ByteArray × ByteArray × Bool)) := by
  refine LimIs.eq (spec_l02ReadMessage.jv0_lim x0 x18) ?_
  refine LimIs.step (fun k_ => (spec_l02ReadMessage.mono_l k_) x0 x18) ?_
  simp only [spec_l02ReadMessage.j0]
  repeat' (with_reducible first | exact spec_MessageOK.v_lim _ _ _ _ _ _ _ | exact spec_l02Of.v_lim _ | exact LimIs.const _ | refine LimIs.ite ?_ ?_ | refine LimIs.bind ?_ (fun _ => ?_))
theorem spec_l02ReadMessage.v_eq (a0 : ByteArray) : spec_l02ReadMessage.v a0 = (if (a0.size : Int) < 7 then (spec_l02ReadMessage.jv0 a0 true) else (if 4 < (a0.size : Int) then (spec_l02ReadMessage.jv0 a0 (decide ((a0.size : Int) < (wrap64 (7 + (wrap64 (bt a0 4))))))) else (none)) : Option (Int × Int × Int × Int × ByteArray × ByteArray × ByteArray × Bool)) := by
  refine LimIs.eq (spec_l02ReadMessage.v_lim a0) ?_
  simp only [spec_l02ReadMessage.f]
  repeat' (with_reducible first | exact spec_l02ReadMessage.jv0_lim _ _ | exact LimIs.const _ | refine LimIs.ite ?_ ?_ | refine LimIs.bind ?_ (fun _ => ?_))
def spec_ReadMessage.f (k : Nat) (l0 : List Int) : Option (Int × Int × Int × Int × ByteArray × ByteArray × ByteArray × Int) := if (l0.length : Int) > 65536 then (some (0, 0, 0, 0, (⟨#[]⟩ : ByteArray), (⟨#[]⟩ : ByteArray), (⟨#[]⟩ : ByteArray), 2)) else ((spec_l02ReadMessage.f k (strOfNums l0)).bind fun bt531 => (if bt531.2.2.2.2.2.2.2 = true then (some (bt531.1, bt531.2.1, bt531.2.2.1, bt531.2.2.2.1, bt531.2.2.2.2.1, bt531.2.2.2.2.2.1, bt531.2.2.2.2.2.2.1, 0)) else (some (0, 0, 0, 0, (⟨#[]⟩ : ByteArray), (⟨#[]⟩ : ByteArray), (⟨#[]⟩ : ByteArray), 3))))
theorem spec_ReadMessage.mono : ∀ a0 k, LeO (spec_ReadMessage.f k a0) (spec_ReadMessage.f (k + 1) a0) := by
  intro a0 k
  unfold spec_ReadMessage.f
  repeat' first
      | (with_reducible exact spec_l02ReadMessage.mono _ _)
      | (with_reducible exact LeO.refl _)
      | (with_reducible exact LeO.none _)
      | (with_reducible refine LeO.ite ?_ ?_)
      | (with_reducible refine LeO.bind ?_ (fun _ => ?_))
      | exact spec_l02ReadMessage.mono _ _
      | exact LeO.none _
      | refine LeO.ite ?_ ?_
      | refine LeO.bind ?_ (fun _ => ?_)
noncomputable def spec_ReadMessage.v (l0 : List Int) : Option (Int × Int × Int × Int × ByteArray × ByteArray × ByteArray × Int) := lim (fun k_ => spec_ReadMessage.f k_ l0)
theorem spec_ReadMessage.v_lim (l0 : List Int) : LimIs (fun k_ => spec_ReadMessage.f k_ l0) (spec_ReadMessage.v l0) := lim_is (fun k_ => spec_ReadMessage.mono l0 k_)
theorem spec_ReadMessage.v_eq (l0 : List Int) : spec_ReadMessage.v l0 = (if (l0.length : Int) > 65536 then (some (0, 0, 0, 0, (⟨#[]⟩ : ByteArray), (⟨#[]⟩ : ByteArray), (⟨#[]⟩ : ByteArray), 2)) else ((spec_l02ReadMessage.v (strOfNums l0)).bind fun bt531 => (if bt531.2.2.2.2.2.2.2 = true then (some (bt531.1, bt531.2.1, bt531.2.2.1, bt531.2.2.2.1, bt531.2.2.2.2.1, bt531.2.2.2.2.2.1, bt531.2.2.2.2.2.2.1, 0)) else (some (0, 0, 0, 0, (⟨#[]⟩ : ByteArray), (⟨#[]⟩ : ByteArray), (⟨#[]⟩ : ByteArray), 3)))) : Option (Int × Int × Int × Int × ByteArray × ByteArray × ByteArray × Int)) := by
  refine LimIs.eq (spec_ReadMessage.v_lim l0) ?_
  simp only [spec_ReadMessage.f]
  repeat' (with_reducible first | exact spec_l02ReadMessage.v_lim _ | exact LimIs.const _ | refine LimIs.ite ?_ ?_ | refine LimIs.bind ?_ (fun _ => ?_))
mutual
def laws_FnMessages.j0 : Nat → List Int → List Int → Bool → Option (Bool)
  | 0, _, _, _ => none
  | k + 1, x0, x1, x25 => if x25 = true then (some true) else ((spec_MessageOf.f k x0).bind fun bt540 => ((impl_MessageBytes.f k bt540.1 bt540.2.1 bt540.2.2.1 bt540.2.2.2.1 bt540.2.2.2.2.1 bt540.2.2.2.2.2.1 bt540.2.2.2.2.2.2).bind fun bt548 => ((spec_MessageBytes.f k bt540.1 bt540.2.1 bt540.2.2.1 bt540.2.2.2.1 bt540.2.2.2.2.1 bt540.2.2.2.2.2.1 bt540.2.2.2.2.2.2).bind fun bt552 => ((impl_ReadMessage.f k bt548.1).bind fun bt556 => (if bt548.2 = 0 then (if (strOfNums bt548.1).toList = (strOfNums bt552.1).toList then (if bt556.2.2.2.2.2.2.2 = 0 then (if (!(bt556.1 == bt540.1) || (!(bt556.2.1 == bt540.2.1) || (!(bt556.2.2.1 == bt540.2.2.1) || (!(bt556.2.2.2.1 == bt540.2.2.2.1) || (!(bt556.2.2.2.2.1.toList == bt540.2.2.2.2.1.toList) || (!(bt556.2.2.2.2.2.1.toList == bt540.2.2.2.2.2.1.toList) || (!(bt556.2.2.2.2.2.2.1.toList == bt540.2.2.2.2.2.2.toList)))))))) = true then (laws_FnMessages.j1 k x1 true) else ((impl_MessageOK.f k bt540.1 bt540.2.1 bt540.2.2.1 bt540.2.2.2.1 bt540.2.2.2.2.1 bt540.2.2.2.2.2.1 bt540.2.2.2.2.2.2).bind fun t565 => (laws_FnMessages.j1 k x1 (!t565)))) else (laws_FnMessages.j1 k x1 true)) else (laws_FnMessages.j1 k x1 true)) else (laws_FnMessages.j1 k x1 true))))))
def laws_FnMessages.j1 : Nat → List Int → Bool → Option (Bool)
  | 0, _, _ => none
  | k + 1, x1, x65 => if x65 = true then (some false) else ((impl_ReadMessage.f k x1).bind fun bt566 => ((spec_ReadMessage.f k x1).bind fun bt575 => (if bt566.2.2.2.2.2.2.2 = bt575.2.2.2.2.2.2.2 then (if bt566.2.2.2.2.2.2.2 = 0 then ((impl_MessageBytes.f k bt566.1 bt566.2.1 bt566.2.2.1 bt566.2.2.2.1 bt566.2.2.2.2.1 bt566.2.2.2.2.2.1 bt566.2.2.2.2.2.2.1).bind fun bt584 => (if bt584.2 = 0 then (some ((strOfNums bt584.1).toList == (strOfNums x1).toList)) else (some false))) else (some true)) else (some false))))
end
def laws_FnMessages.f (k : Nat) (l0 : List Int) (l1 : List Int) : Option (Bool) := if (l0.length : Int) > 1048576 then (laws_FnMessages.j0 k l0 l1 true) else (laws_FnMessages.j0 k l0 l1 (decide ((l1.length : Int) > 1048576)))
theorem laws_FnMessages.mono_l : ∀ k, (∀ y0 y1 y2, LeO (laws_FnMessages.j0 k y0 y1 y2) (laws_FnMessages.j0 (k + 1) y0 y1 y2)) ∧ (∀ y0 y1, LeO (laws_FnMessages.j1 k y0 y1) (laws_FnMessages.j1 (k + 1) y0 y1))
  | 0 => ⟨fun _ _ _ r h => by simp [laws_FnMessages.j0] at h, fun _ _ r h => by simp [laws_FnMessages.j1] at h⟩
  | k + 1 => by
    obtain ⟨ih0, ih1⟩ := laws_FnMessages.mono_l k
    refine ⟨?_, ?_⟩
    · intro y0 y1 y2
      unfold laws_FnMessages.j0
      repeat' first
      | (with_reducible exact ih0 _ _ _)
      | (with_reducible exact ih1 _ _)
      | (with_reducible exact impl_MessageBytes.mono _ _ _ _ _ _ _ _)
      | (with_reducible exact impl_MessageOK.mono _ _ _ _ _ _ _ _)
      | (with_reducible exact impl_ReadMessage.mono _ _)
      | (with_reducible exact spec_MessageBytes.mono _ _ _ _ _ _ _ _)
      | (with_reducible exact spec_MessageOf.mono _ _)
      | (with_reducible exact spec_ReadMessage.mono _ _)
      | (with_reducible exact LeO.refl _)
      | (with_reducible exact LeO.none _)
      | (with_reducible refine LeO.ite ?_ ?_)
      | (with_reducible refine LeO.bind ?_ (fun _ => ?_))
      | exact ih0 _ _ _
      | exact ih1 _ _
      | exact impl_MessageBytes.mono _ _ _ _ _ _ _ _
      | exact impl_MessageOK.mono _ _ _ _ _ _ _ _
      | exact impl_ReadMessage.mono _ _
      | exact spec_MessageBytes.mono _ _ _ _ _ _ _ _
      | exact spec_MessageOf.mono _ _
      | exact spec_ReadMessage.mono _ _
      | exact LeO.none _
      | refine LeO.ite ?_ ?_
      | refine LeO.bind ?_ (fun _ => ?_)
    · intro y0 y1
      unfold laws_FnMessages.j1
      repeat' first
      | (with_reducible exact ih0 _ _ _)
      | (with_reducible exact ih1 _ _)
      | (with_reducible exact impl_MessageBytes.mono _ _ _ _ _ _ _ _)
      | (with_reducible exact impl_MessageOK.mono _ _ _ _ _ _ _ _)
      | (with_reducible exact impl_ReadMessage.mono _ _)
      | (with_reducible exact spec_MessageBytes.mono _ _ _ _ _ _ _ _)
      | (with_reducible exact spec_MessageOf.mono _ _)
      | (with_reducible exact spec_ReadMessage.mono _ _)
      | (with_reducible exact LeO.refl _)
      | (with_reducible exact LeO.none _)
      | (with_reducible refine LeO.ite ?_ ?_)
      | (with_reducible refine LeO.bind ?_ (fun _ => ?_))
      | exact ih0 _ _ _
      | exact ih1 _ _
      | exact impl_MessageBytes.mono _ _ _ _ _ _ _ _
      | exact impl_MessageOK.mono _ _ _ _ _ _ _ _
      | exact impl_ReadMessage.mono _ _
      | exact spec_MessageBytes.mono _ _ _ _ _ _ _ _
      | exact spec_MessageOf.mono _ _
      | exact spec_ReadMessage.mono _ _
      | exact LeO.none _
      | refine LeO.ite ?_ ?_
      | refine LeO.bind ?_ (fun _ => ?_)
theorem laws_FnMessages.mono : ∀ a0 a1 k, LeO (laws_FnMessages.f k a0 a1) (laws_FnMessages.f (k + 1) a0 a1) := by
  intro a0 a1 k
  obtain ⟨ih0, ih1⟩ := laws_FnMessages.mono_l k
  unfold laws_FnMessages.f
  repeat' first
      | (with_reducible exact ih0 _ _ _)
      | (with_reducible exact ih1 _ _)
      | (with_reducible exact impl_MessageBytes.mono _ _ _ _ _ _ _ _)
      | (with_reducible exact impl_MessageOK.mono _ _ _ _ _ _ _ _)
      | (with_reducible exact impl_ReadMessage.mono _ _)
      | (with_reducible exact spec_MessageBytes.mono _ _ _ _ _ _ _ _)
      | (with_reducible exact spec_MessageOf.mono _ _)
      | (with_reducible exact spec_ReadMessage.mono _ _)
      | (with_reducible exact LeO.refl _)
      | (with_reducible exact LeO.none _)
      | (with_reducible refine LeO.ite ?_ ?_)
      | (with_reducible refine LeO.bind ?_ (fun _ => ?_))
      | exact ih0 _ _ _
      | exact ih1 _ _
      | exact impl_MessageBytes.mono _ _ _ _ _ _ _ _
      | exact impl_MessageOK.mono _ _ _ _ _ _ _ _
      | exact impl_ReadMessage.mono _ _
      | exact spec_MessageBytes.mono _ _ _ _ _ _ _ _
      | exact spec_MessageOf.mono _ _
      | exact spec_ReadMessage.mono _ _
      | exact LeO.none _
      | refine LeO.ite ?_ ?_
      | refine LeO.bind ?_ (fun _ => ?_)
noncomputable def laws_FnMessages.jv0 (x0 : List Int) (x1 : List Int) (x25 : Bool) : Option (Bool) := lim (fun k_ => laws_FnMessages.j0 k_ x0 x1 x25)
noncomputable def laws_FnMessages.jv1 (x1 : List Int) (x65 : Bool) : Option (Bool) := lim (fun k_ => laws_FnMessages.j1 k_ x1 x65)
noncomputable def laws_FnMessages.v (l0 : List Int) (l1 : List Int) : Option (Bool) := lim (fun k_ => laws_FnMessages.f k_ l0 l1)
theorem laws_FnMessages.jv0_lim (x0 : List Int) (x1 : List Int) (x25 : Bool) : LimIs (fun k_ => laws_FnMessages.j0 k_ x0 x1 x25) (laws_FnMessages.jv0 x0 x1 x25) := lim_is (fun k_ => (laws_FnMessages.mono_l k_).1 x0 x1 x25)
theorem laws_FnMessages.jv1_lim (x1 : List Int) (x65 : Bool) : LimIs (fun k_ => laws_FnMessages.j1 k_ x1 x65) (laws_FnMessages.jv1 x1 x65) := lim_is (fun k_ => (laws_FnMessages.mono_l k_).2 x1 x65)
theorem laws_FnMessages.v_lim (l0 : List Int) (l1 : List Int) : LimIs (fun k_ => laws_FnMessages.f k_ l0 l1) (laws_FnMessages.v l0 l1) := lim_is (fun k_ => laws_FnMessages.mono l0 l1 k_)
theorem laws_FnMessages.jv0_eq (x0 : List Int) (x1 : List Int) (x25 : Bool) : laws_FnMessages.jv0 x0 x1 x25 = (if x25 = true then (some true) else ((spec_MessageOf.v x0).bind fun bt540 => ((impl_MessageBytes.v bt540.1 bt540.2.1 bt540.2.2.1 bt540.2.2.2.1 bt540.2.2.2.2.1 bt540.2.2.2.2.2.1 bt540.2.2.2.2.2.2).bind fun bt548 => ((spec_MessageBytes.v bt540.1 bt540.2.1 bt540.2.2.1 bt540.2.2.2.1 bt540.2.2.2.2.1 bt540.2.2.2.2.2.1 bt540.2.2.2.2.2.2).bind fun bt552 => ((impl_ReadMessage.v bt548.1).bind fun bt556 => (if bt548.2 = 0 then (if (strOfNums bt548.1).toList = (strOfNums bt552.1).toList then (if bt556.2.2.2.2.2.2.2 = 0 then (if (!(bt556.1 == bt540.1) || (!(bt556.2.1 == bt540.2.1) || (!(bt556.2.2.1 == bt540.2.2.1) || (!(bt556.2.2.2.1 == bt540.2.2.2.1) || (!(bt556.2.2.2.2.1.toList == bt540.2.2.2.2.1.toList) || (!(bt556.2.2.2.2.2.1.toList == bt540.2.2.2.2.2.1.toList) || (!(bt556.2.2.2.2.2.2.1.toList == bt540.2.2.2.2.2.2.toList)))))))) = true then (laws_FnMessages.jv1 x1 true) else ((impl_MessageOK.v bt540.1 bt540.2.1 bt540.2.2.1 bt540.2.2.2.1 bt540.2.2.2.2.1 bt540.2.2.2.2.2.1 bt540.2.2.2.2.2.2).bind fun t565 => (laws_FnMessages.jv1 x1 (!t565)))) else (laws_FnMessages.jv1 x1 true)) else (laws_FnMessages.jv1 x1 true)) else (laws_FnMessages.jv1 x1 true)))))) : Option (Bool)) := by
  refine LimIs.eq (laws_FnMessages.jv0_lim x0 x1 x25) ?_
  refine LimIs.step (fun k_ => (laws_FnMessages.mono_l k_).1 x0 x1 x25) ?_
  simp only [laws_FnMessages.j0]
  repeat' (with_reducible first | exact impl_MessageBytes.v_lim _ _ _ _ _ _ _ | exact impl_MessageOK.v_lim _ _ _ _ _ _ _ | exact impl_ReadMessage.v_lim _ | exact laws_FnMessages.jv1_lim _ _ | exact spec_MessageBytes.v_lim _ _ _ _ _ _ _ | exact spec_MessageOf.v_lim _ | exact LimIs.const _ | refine LimIs.ite ?_ ?_ | refine LimIs.bind ?_ (fun _ => ?_))
theorem laws_FnMessages.jv1_eq (x1 : List Int) (x65 : Bool) : laws_FnMessages.jv1 x1 x65 = (if x65 = true then (some false) else ((impl_ReadMessage.v x1).bind fun bt566 => ((spec_ReadMessage.v x1).bind fun bt575 => (if bt566.2.2.2.2.2.2.2 = bt575.2.2.2.2.2.2.2 then (if bt566.2.2.2.2.2.2.2 = 0 then ((impl_MessageBytes.v bt566.1 bt566.2.1 bt566.2.2.1 bt566.2.2.2.1 bt566.2.2.2.2.1 bt566.2.2.2.2.2.1 bt566.2.2.2.2.2.2.1).bind fun bt584 => (if bt584.2 = 0 then (some ((strOfNums bt584.1).toList == (strOfNums x1).toList)) else (some false))) else (some true)) else (some false)))) : Option (Bool)) := by
  refine LimIs.eq (laws_FnMessages.jv1_lim x1 x65) ?_
  refine LimIs.step (fun k_ => (laws_FnMessages.mono_l k_).2 x1 x65) ?_
  simp only [laws_FnMessages.j1]
  repeat' (with_reducible first | exact impl_MessageBytes.v_lim _ _ _ _ _ _ _ | exact impl_ReadMessage.v_lim _ | exact spec_ReadMessage.v_lim _ | exact LimIs.const _ | refine LimIs.ite ?_ ?_ | refine LimIs.bind ?_ (fun _ => ?_))
theorem laws_FnMessages.v_eq (l0 : List Int) (l1 : List Int) : laws_FnMessages.v l0 l1 = (if (l0.length : Int) > 1048576 then (laws_FnMessages.jv0 l0 l1 true) else (laws_FnMessages.jv0 l0 l1 (decide ((l1.length : Int) > 1048576))) : Option (Bool)) := by
  refine LimIs.eq (laws_FnMessages.v_lim l0 l1) ?_
  simp only [laws_FnMessages.f]
  repeat' (with_reducible first | exact laws_FnMessages.jv0_lim _ _ _ | exact LimIs.const _ | refine LimIs.ite ?_ ?_ | refine LimIs.bind ?_ (fun _ => ?_))
end Go.Proofs.Ytdpdbegglkdgnaa.A
end

section
namespace Go.Proofs.YtdpdbegglkdgnaaW.PrintWords
open Go.RowKit
/-- W is w but for block g. -/
def SameBut (g : Nat) (w W : World) : Prop := ∀ k, k ≠ g → W.heap[k]? = w.heap[k]?
@[go_sem] theorem SameBut.self (g : Nat) (w : World) : SameBut g w w := fun _ _ => rfl
@[go_sem] theorem SameBut.set (g : Nat) (w W : World) (j : Nat) (v : Value) : SameBut g w (W.setCell ⟨g, j, none⟩ v) = SameBut g w W := by
  have e : ∀ k, k ≠ g → (W.setCell ⟨g, j, none⟩ v).heap[k]? = W.heap[k]? := fun k hk => by simp [World.setCell, Array.getElem?_modify, Ne.symm hk]
  exact propext ⟨fun h k hk => (e k hk).symm.trans (h k hk), fun h k hk => (e k hk).trans (h k hk)⟩
@[go_sem] theorem SameBut.drew (g : Nat) (w W : World) : SameBut g w W.drew = SameBut g w W := rfl
@[go_sem] theorem SameBut.drewN (g : Nat) (w W : World) (n : Nat) : SameBut g w (W.drewN n) = SameBut g w W := rfl
namespace Kd
theorem V_string_sb {P : Program} {w : World} {t e s base n c g : Nat} {A : Option Addr} {ok : Nat → Prop} {xs : List Int} (h : Kd.V (Kd.int .u8) e w base ok (.slice A n c) xs) (hg : ∀ k, ok k → k ≠ g) (ht : P.underlying t = some (.slice e)) (he : P.underlying e = some (.int .u8)) (hs : P.underlying s = some .string) :
    ∀ W, SameBut g w W → Sem.run P (convert t s (.slice A xs.length c)) W = .ok (.string (strOfNums xs)) W := by
  intro W hW
  exact Kd.C_string (P := P) ht he hs (Kd.V_reads' (Kd.V_step h (fun k hk _ => hW k (hg k hk)))).2.2
theorem R_string_sb {P : Program} {w : World} {t e s base n c g : Nat} {A : Option Addr} {ok : Nat → Prop} {xs : List Int} (h : Kd.R (Kd.int .u8) e w base ok (.slice A n c) xs) (hg : ∀ k, ok k → k ≠ g) (ht : P.underlying t = some (.slice e)) (he : P.underlying e = some (.int .u8)) (hs : P.underlying s = some .string) :
    ∀ W, SameBut g w W → Sem.run P (convert t s (.slice A xs.length c)) W = .ok (.string (strOfNums xs)) W := by
  intro W hW
  exact Kd.C_string (P := P) ht he hs (Kd.R_reads' (Kd.R_step h (fun k hk _ => hW k (hg k hk)))).2.2
theorem R_string_sbv {P : Program} {w : World} {t e s base g : Nat} {v : Value} {ok : Nat → Prop} {xs : List Int} (h : Kd.R (Kd.int .u8) e w base ok v xs) (hg : ∀ k, ok k → k ≠ g) (ht : P.underlying t = some (.slice e)) (he : P.underlying e = some (.int .u8)) (hs : P.underlying s = some .string) :
    ∀ W, SameBut g w W → Sem.run P (convert t s v) W = .ok (.string (strOfNums xs)) W := by
  obtain ⟨A, c, rfl⟩ := Kd.R_slice h
  exact R_string_sb h hg ht he hs
end Kd
end Go.Proofs.YtdpdbegglkdgnaaW.PrintWords
end

section
namespace Go.Proofs.YtdpdbegglkdgnaaW.PrintWords
open Go.RowKit
/-- Block g holds the bytes l at its head; it has cap cells, none of them marked. -/
structure Bm (W : World) (g cap : Nat) (l : List Int) : Prop where
  cell : ∀ j, j < l.length → W.cell? ⟨g, j, none⟩ = some (.int .u8 (l.getD j 0))
  there : ∀ j, j < cap → (W.cell? ⟨g, j, none⟩).isSome = true
  free : ∀ j, j < cap → W.frozen? ⟨g, j, none⟩ = false
  room : l.length ≤ cap
theorem Bm.at {W W' : World} {g cap : Nat} {l : List Int} (h : Bm W g cap l) (e : W'.heap[g]? = W.heap[g]?) : Bm W' g cap l :=
  ⟨fun j hj => (World.cell?_of_block (a := ⟨g, j, none⟩) e).trans (h.cell j hj), fun j hj => by rw [World.cell?_of_block (a := ⟨g, j, none⟩) e]; exact h.there j hj, fun j hj => (World.frozen?_of_block (a := ⟨g, j, none⟩) e).trans (h.free j hj), h.room⟩
theorem Bm.conv (W : World) (e : Nat) (s : ByteArray) : Bm (Lib.bytesWorld W e s) W.heap.size (grownCap W s.size 0 e) (bytesOf s) := by
  have hc : s.size ≤ grownCap W s.size 0 e := grownCap_ge _ _ _ _
  have hsz : (Lib.bytesCells W e s).size = grownCap W s.size 0 e := by simp [Lib.bytesCells]; omega
  refine ⟨fun j hj => ?_, fun j hj => ?_, fun j hj => ?_, by rw [bytesOf_length]; exact hc⟩
  · rw [bytesOf_length] at hj
    rw [Lib.bytesWorld_cell W e s j hj]
    simp [bytesOf, List.getD, hj]
  · unfold World.cell?
    rw [Lib.bytesWorld_at_new]
    simp [hsz, hj]
  · unfold World.frozen?
    rw [Lib.bytesWorld_at_new]
    simp [hsz]
    omega
section
variable {P : Program} {ops : Array Oper} {rest : List Oper} {o : Oper} {a : Act} {Q : Exit → Act → World → Prop}
theorem Bm.grown {W : World} {g cap : Nat} {l ys : List Int} {e : Nat} {n : Nat} {fill : List Value} (h : Bm W g cap l) (hn : n = l.length + ys.length) :
    ∀ w1, w1.heap[W.heap.size]? = some (.cells (((nums .u8 l) ++ (nums .u8 ys) ++ fill).toArray) e (0, 0)) → Bm w1 W.heap.size (n + fill.length) (l ++ ys) := by
  intro w1 hw
  have hl : (nums .u8 l ++ nums .u8 ys ++ fill).length = n + fill.length := by simp [nums]; omega
  refine ⟨fun j hj => ?_, fun j hj => ?_, fun j hj => ?_, by simp; omega⟩
  · unfold World.cell?
    rw [hw]
    rw [List.length_append] at hj
    simp only [Option.isSome_none, Bool.false_eq_true, if_false, List.getElem?_toArray]
    rw [← nums_append, List.getElem?_append_left (by simp [nums]; omega)]
    have hjl : j < (l ++ ys).length := by rw [List.length_append]; exact hj
    simp only [nums, List.getElem?_map, List.getElem?_eq_getElem hjl, Option.map_some, List.getD, Option.getD_some]
  · unfold World.cell?
    rw [hw]
    simp only [Option.isSome_none, Bool.false_eq_true, if_false, List.getElem?_toArray]
    rw [List.getElem?_eq_getElem (by omega)]
    rfl
  · unfold World.frozen?
    rw [hw]
    simp
theorem Bm.set {W : World} {g cap : Nat} {l ys : List Int} (h : Bm W g cap l) (hr : l.length + ys.length ≤ cap) : Bm (W.setCells g l.length (nums .u8 ys)) g cap (l ++ ys) := by
  have hlen : (nums .u8 ys).length = ys.length := nums_length _ _
  refine ⟨fun j hj => ?_, fun j hj => ?_, fun j hj => ?_, by simp; omega⟩
  · rw [List.length_append] at hj
    by_cases c : j < l.length
    · rw [World.cell?_setCells_out g _ _ _ _ (fun _ _ => by dsimp only; omega), h.cell j c]
      simp [List.getD, List.getElem?_append_left c]
    · have := World.cell?_setCells_in g (nums .u8 ys) l.length W (fun i hi => h.there _ (by omega)) (j - l.length) (by omega)
      rw [show l.length + (j - l.length) = j by omega] at this
      rw [this]
      simp [nums, List.getD, List.getElem?_append_right (show l.length ≤ j by omega), List.getElem?_eq_getElem (show j - l.length < ys.length by omega)]
  · by_cases c : l.length ≤ j ∧ j < l.length + ys.length
    · have := World.cell?_setCells_in g (nums .u8 ys) l.length W (fun i hi => h.there _ (by omega)) (j - l.length) (by omega)
      rw [show l.length + (j - l.length) = j by omega] at this
      rw [this]
      rfl
    · rw [World.cell?_setCells_out g _ _ _ _ (fun _ _ => by dsimp only; omega)]
      exact h.there j hj
  · rw [World.frozen?_setCells]
    exact h.free j hj
end
end Go.Proofs.YtdpdbegglkdgnaaW.PrintWords
end

section
namespace Go.Proofs.Ytdpdbegglkdgnaa.A
open Go.RowKit Go.Proofs.YtdpdbegglkdgnaaW.PrintWords Go.Proofs.YtdpdbegglkdgnaaW.PrintLast Go.Proofs.YtdpdbegglkdgnaaW.PrintMore
attribute [local go_sem] max2_int min2_int max_two min_two max_three min_three max_four min_four
end Go.Proofs.Ytdpdbegglkdgnaa.A
end

section
namespace Go.Proofs.YtdpdbegglkdgnaaW.PrintWords
open Go.RowKit
theorem wrap_id {x : Int} (h0 : -9223372036854775808 ≤ x) (h1 : x ≤ 9223372036854775807) : wrap64 x = x := by unfold wrap64; omega
theorem wf8 {x : Int} (h : (Lit.int .u8 x).wf = true) : 0 ≤ x ∧ x ≤ 255 := by
  simp [Lit.wf, IntKind.min, IntKind.max, IntKind.signed, IntKind.bits] at h
  omega
def inB (n low high : Int) : Bool := decide (low ≤ n ∧ n ≤ high)
theorem ba_toList (a : ByteArray) : a.toList = a.data.toList := ByteArray.toList_eq a
theorem strOf_size (l : List Int) : (strOfNums l).size = l.length := by
  show (strOfNums l).data.size = _
  simp [strOfNums]
theorem strOf_extract (l : List Int) (i j : Nat) : (strOfNums l).extract i j = strOfNums ((l.take j).drop i) := by
  apply ByteArray.ext
  rw [ByteArray.data_extract]
  simp [strOfNums]
  rw [List.drop_take]
end Go.Proofs.YtdpdbegglkdgnaaW.PrintWords
end

section
namespace Go.Proofs.Ytdpdbegglkdgnaa.A
open Go.RowKit Go.Proofs.YtdpdbegglkdgnaaW.PrintWords
def numL (l : List Int) : Int := l.foldl (fun n c => n * 256 + c) 0
def numM (s : ByteArray) : Int := numL (bytesOf s)
theorem or_byte (n c : Int) (h0 : 0 ≤ n) (h1 : n < 4503599627370496) (h2 : 0 ≤ c) (h3 : c < 256) : Go.bits .or .i64 (wrap64 (n * 256)) (wrap64 c) = n * 256 + c := by
  rw [wrap_id (by omega) (by omega), wrap_id (by omega) (by omega)]
  exact Go.bits_join .i64 62 (by decide) (fun n h0 h1 => by rw [IntKind.wrap_i64]; omega) 8 (n * 256) c (by omega) (by omega) (by omega) (by omega) (by omega) (by omega)
theorem bytesOf_rd (s : ByteArray) (i : Int) (h0 : 0 ≤ i) (h1 : i < s.size) : rd (bytesOf s) i = bt s i := by
  unfold rd bt
  rw [dif_pos (by omega)]
  unfold bytesOf
  rw [List.getD, List.getElem?_map, List.getElem?_eq_getElem (by rw [Array.length_toList]; show _ < s.size; omega)]
  simp
  rfl
theorem bytesOf_range (s : ByteArray) : ∀ c ∈ bytesOf s, 0 ≤ c ∧ c ≤ 255 := by
  intro c hc
  unfold bytesOf at hc
  obtain ⟨b, _, rfl⟩ := List.mem_map.1 hc
  have := b.toNat_lt
  omega
theorem foldl_range (l : List Int) : ∀ (n : Int), (∀ c ∈ l, 0 ≤ c ∧ c ≤ 255) → 0 ≤ n → 0 ≤ l.foldl (fun n c => n * 256 + c) n ∧ l.foldl (fun n c => n * 256 + c) n < (n + 1) * 256 ^ l.length := by
  induction l with
  | nil => intro n _ hn; simp; omega
  | cons c l ih =>
    intro n h hn
    have h1 := h c (by simp)
    obtain ⟨h2, h3⟩ := ih (n * 256 + c) (fun x hx => h x (by simp [hx])) (by omega)
    refine ⟨h2, ?_⟩
    simp only [List.foldl_cons, List.length_cons]
    refine Int.lt_of_lt_of_le h3 ?_
    rw [Int.pow_succ, Int.mul_comm (256 ^ l.length) 256, ← Int.mul_assoc]
    exact Int.mul_le_mul_of_nonneg_right (by omega) (Int.pow_nonneg (by omega))
theorem numM_range (s : ByteArray) : 0 ≤ numM s ∧ numM s < 256 ^ s.size := by
  have h := foldl_range (bytesOf s) 0 (bytesOf_range s) (by omega)
  rw [bytesOf_length] at h
  simpa [numM, numL] using h
theorem impl_number_l (s : ByteArray) (hs : s.size ≤ 6) (t : ByteArray) (b : Bool) : ∀ (d i : Nat), s.size - i = d → i ≤ s.size → ∀ n : Int, n = numL ((bytesOf s).take i) → impl_reader_number.lv0 n (bytesOf s) ((bytesOf s).length : Int) i t b = some (numM s, t, b)
  | 0, i, h, hi, n, hn => by
    rw [impl_reader_number.lv0_eq, if_neg (by rw [bytesOf_length]; omega), hn, List.take_of_length_le (by rw [bytesOf_length]; omega)]; rfl
  | d + 1, i, h, hi, n, hn => by
    have hlt : i < s.size := by omega
    have hr := foldl_range ((bytesOf s).take i) 0 (fun c hc => bytesOf_range s c (List.mem_of_mem_take hc)) (by omega)
    have hlen : ((bytesOf s).take i).length = i := by rw [List.length_take, bytesOf_length]; omega
    rw [hlen] at hr
    have hp : (256 : Int) ^ i ≤ 256 ^ 5 := by
      have h5 : i = 0 ∨ i = 1 ∨ i = 2 ∨ i = 3 ∨ i = 4 ∨ i = 5 := by omega
      rcases h5 with rfl | rfl | rfl | rfl | rfl | rfl <;> decide
    have hn2 : 0 ≤ n ∧ n < 256 ^ 5 := by rw [hn]; unfold numL; omega
    have hb := bt_range s i
    rw [impl_reader_number.lv0_eq, if_pos (by rw [bytesOf_length]; omega), if_pos (by omega), if_pos (by rw [bytesOf_length]; omega), bytesOf_rd s i (by omega) (by omega), or_byte n _ hn2.1 (by omega) hb.1 (by omega), wrap_id (x := (i : Int) + 1) (by omega) (by omega)]
    refine impl_number_l s hs t b d (i + 1) (by omega) (by omega) _ ?_
    rw [List.take_succ_eq_append_getElem (by rw [bytesOf_length]; omega)]
    unfold numL
    rw [List.foldl_append]
    simp only [List.foldl_cons, List.foldl_nil]
    have h1 : (bytesOf s)[i]'(by rw [bytesOf_length]; omega) = bt s i := by
      rw [← bytesOf_rd s i (by omega) (by omega)]
      unfold rd
      rw [Int.toNat_natCast, List.getD, List.getElem?_eq_getElem (by rw [bytesOf_length]; omega)]
      rfl
    rw [h1, hn]
    rfl
/-- The reader at place p of x. -/
theorem take_ok (x : ByteArray) (p n : Nat) (h : p + n ≤ x.size) : impl_reader_take.v (x.extract p x.size) false n = some (x.extract p (p + n), x.extract (p + n) x.size, false) := by
  have hs : (x.extract p x.size).size = x.size - p := by rw [ByteArray.size_extract]; omega
  rw [impl_reader_take.v_eq, if_neg (by simp), if_neg (by omega), if_pos (by omega), if_pos (by omega), Int.toNat_natCast, hs]
  congr 1
  refine Prod.ext ?_ (Prod.ext ?_ rfl)
  · apply ByteArray.ext
    simp only [ByteArray.data_extract, Array.extract_extract]
    congr 1; omega
  · apply ByteArray.ext
    simp only [ByteArray.data_extract, Array.extract_extract]
    congr 1; omega
theorem take_short (x : ByteArray) (p n : Nat) (hp : p ≤ x.size) (h : x.size < p + n) : impl_reader_take.v (x.extract p x.size) false n = some (⟨#[]⟩, x.extract p x.size, true) := by
  have hs : (x.extract p x.size).size = x.size - p := by rw [ByteArray.size_extract]; omega
  rw [impl_reader_take.v_eq, if_neg (by simp), if_pos (by omega)]
theorem take_bad (t : ByteArray) (n : Int) : impl_reader_take.v t true n = some (⟨#[]⟩, t, true) := by rw [impl_reader_take.v_eq, if_pos rfl]
theorem number_of (t u v : ByteArray) (b c : Bool) (n : Int) (h : impl_reader_take.v t b n = some (u, v, c)) (hu : u.size ≤ 6) : impl_reader_number.v t b n = some (numM u, v, c) := by
  rw [impl_reader_number.v_eq, h]
  simp only [Option.bind_some]
  rw [if_pos (by omega)]
  exact impl_number_l u hu v c u.size 0 rfl (by omega) 0 rfl
theorem number_ok (x : ByteArray) (p n : Nat) (h : p + n ≤ x.size) (hn : n ≤ 6) : impl_reader_number.v (x.extract p x.size) false n = some (numM (x.extract p (p + n)), x.extract (p + n) x.size, false) :=
  number_of _ _ _ _ _ _ (take_ok x p n h) (by rw [ByteArray.size_extract]; omega)
theorem number_short (x : ByteArray) (p n : Nat) (hp : p ≤ x.size) (h : x.size < p + n) : impl_reader_number.v (x.extract p x.size) false n = some (0, x.extract p x.size, true) :=
  number_of _ _ _ _ _ _ (take_short x p n hp h) (by show 0 ≤ 6; omega)
theorem number_bad (t : ByteArray) (n : Int) : impl_reader_number.v t true n = some (0, t, true) := number_of _ _ _ _ _ _ (take_bad t n) (by show 0 ≤ 6; omega)
theorem done_bad (t : ByteArray) : impl_reader_done.v t true = some (false, t, true) := by rw [impl_reader_done.v_eq, if_pos rfl]
theorem ba_nil' (s : ByteArray) : (s.toList == ([] : List UInt8)) = decide (s.size = 0) := by
  rw [Bool.eq_iff_iff]
  simp only [beq_iff_eq, decide_eq_true_eq]
  rw [ba_toList]
  constructor
  · intro h; show s.data.size = 0; rw [← Array.length_toList, h]; rfl
  · intro h; have h2 : s.data.toList.length = 0 := by rw [Array.length_toList]; exact h
    exact List.eq_nil_of_length_eq_zero h2
theorem ba_ne' (s : ByteArray) : (s.toList != ([] : List UInt8)) = decide (s.size ≠ 0) := by
  rw [bne, ba_nil']; simp
theorem done_at (x : ByteArray) (p : Nat) (h : p ≤ x.size) : impl_reader_done.v (x.extract p x.size) false = some (decide (p = x.size), x.extract p x.size, false) := by
  rw [impl_reader_done.v_eq, if_neg (by simp), ba_nil', ByteArray.size_extract]
  congr 2
  by_cases h2 : p = x.size
  · simp [h2]
  · simp [h2]; omega
theorem at_zero (x : ByteArray) : x = x.extract 0 x.size := by
  apply ByteArray.ext
  rw [ByteArray.data_extract]
  show x.data = x.data.extract 0 x.data.size
  rw [Array.extract_size]
theorem numM_one (x : ByteArray) (p : Nat) (h : p < x.size) : numM (x.extract p (p + 1)) = bt x p := by
  unfold numM numL bytesOf
  rw [ByteArray.data_extract, Array.toList_extract]
  have h2 : (x.data.toList.extract p (p + 1)) = [x[p]] := by
    rw [List.extract_eq_take_drop, show p + 1 - p = 1 by omega, List.drop_eq_getElem_cons (by rw [Array.length_toList]; exact h)]
    rfl
  rw [h2, bt, dif_pos (by omega)]
  simp
def byteL (l : List Int) : Prop := ∀ y ∈ l, 0 ≤ y ∧ y ≤ 255
theorem byteL_nil : byteL [] := fun y h => by cases h
theorem byteL_cons {a : Int} {l : List Int} (h0 : 0 ≤ a) (h1 : a ≤ 255) (h : byteL l) : byteL (a :: l) := by
  intro y hy
  rcases List.mem_cons.1 hy with rfl | hy
  · exact ⟨h0, h1⟩
  · exact h y hy
theorem byteL_append {a b : List Int} (ha : byteL a) (hb : byteL b) : byteL (a ++ b) := by
  intro y hy
  rcases List.mem_append.1 hy with hy | hy
  · exact ha y hy
  · exact hb y hy
theorem bytes_str (l : List Int) (h : byteL l) : bytesOf (strOfNums l) = l := by
  unfold bytesOf
  rw [strOfNums_data, List.map_map]
  conv => rhs; rw [← List.map_id l]
  apply List.map_congr_left
  intro y hy
  have := h y hy
  simp only [Function.comp, id]
  rw [UInt8.toNat_ofNat']
  omega
theorem str_bytes (s : ByteArray) : strOfNums (bytesOf s) = s := by
  apply ByteArray.ext
  apply Array.toList_inj.1
  rw [strOfNums_data]
  unfold bytesOf
  rw [List.map_map]
  conv => rhs; rw [← List.map_id s.data.toList]
  apply List.map_congr_left
  intro y _
  simp only [Function.comp, id]
  rw [Int.toNat_natCast]
  exact UInt8.ofNat_toNat
theorem byteL_bytes (s : ByteArray) : byteL (bytesOf s) := bytesOf_range s
theorem str_append (a b : List Int) : strOfNums (a ++ b) = strOfNums a ++ strOfNums b := by
  apply ByteArray.ext
  apply Array.toList_inj.1
  rw [ByteArray.data_append, Array.toList_append, strOfNums_data, strOfNums_data, strOfNums_data, List.map_append]
theorem bytes_extract (x : ByteArray) (a b : Nat) : bytesOf (x.extract a b) = ((bytesOf x).take b).drop a := by
  unfold bytesOf
  rw [ByteArray.data_extract, Array.toList_extract, List.extract_eq_take_drop, List.map_take, List.map_drop, List.drop_take]
/-- n in k bytes, the high one first. -/
def beL (n : Int) : Nat → List Int
  | 0 => []
  | k + 1 => beL (n / 256) k ++ [n % 256]
theorem beL_len (n : Int) (k : Nat) : (beL n k).length = k := by
  induction k generalizing n with
  | zero => rfl
  | succ k ih => simp [beL, ih]
theorem byteL_be (n : Int) (k : Nat) : byteL (beL n k) := by
  induction k generalizing n with
  | zero => exact byteL_nil
  | succ k ih => exact byteL_append (ih _) (byteL_cons (by omega) (by omega) byteL_nil)
theorem numL_append (l : List Int) (a : Int) : numL (l ++ [a]) = numL l * 256 + a := by unfold numL; rw [List.foldl_append]; rfl
theorem numL_be (k : Nat) : ∀ n : Int, 0 ≤ n → n < 256 ^ k → numL (beL n k) = n := by
  induction k with
  | zero => intro n h0 h1; simp at h1; have : n = 0 := by omega
            rw [this]; rfl
  | succ k ih =>
    intro n h0 h1
    have h2 : (256 : Int) ^ (k + 1) = 256 ^ k * 256 := by rw [Int.pow_succ]
    rw [beL, numL_append, ih (n / 256) (by omega) (by omega)]
    omega
theorem ext_mid (a b c : List Int) : (strOfNums (a ++ (b ++ c))).extract a.length (a.length + b.length) = strOfNums b := by
  rw [strOf_extract, ← List.append_assoc, show a.length + b.length = (a ++ b).length by rw [List.length_append], List.take_left, List.drop_left]
theorem numM_str (l : List Int) (h : byteL l) : numM (strOfNums l) = numL l := by unfold numM; rw [bytes_str l h]
theorem be_numL : ∀ (k : Nat) (l : List Int), l.length = k → byteL l → beL (numL l) k = l
  | 0, l, h, hb => by rw [List.length_eq_zero_iff.1 h]; rfl
  | k + 1, l, h, hb => by
    have hne : l ≠ [] := by intro e; rw [e] at h; cases h
    have e := (List.dropLast_concat_getLast hne).symm
    generalize l.dropLast = d at e
    generalize l.getLast hne = a at e
    subst e
    have h2 : d.length = k := by simpa using h
    have ha := hb a (by simp)
    have ih := be_numL k d h2 (fun y hy => hb y (List.mem_append.2 (.inl hy)))
    rw [numL_append, beL, show (numL d * 256 + a) / 256 = numL d by omega, show (numL d * 256 + a) % 256 = a by omega, ih]
theorem impl_number1 (n : Int) : impl_number.v n 1 = some (strOfNums (beL n 1)) := by
  have w0 : wrap64 (1 - 1) = 0 := by rw [wrap_id (by omega) (by omega)]; rfl
  have w1 : wrap64 (0 - 1) = -1 := by rw [wrap_id (by omega) (by omega)]; rfl
  rw [impl_number.v_eq, if_pos (by omega), if_pos (by simp), w0, impl_number.lv0_eq, if_pos (by omega), if_pos (by omega), if_pos (by simp), w1, impl_number.lv0_eq, if_neg (by omega)]
  rfl
theorem impl_number2 (n : Int) : impl_number.v n 2 = some (strOfNums (beL n 2)) := by
  have w2 : wrap64 (2 - 1) = 1 := by rw [wrap_id (by omega) (by omega)]; rfl
  have w0 : wrap64 (1 - 1) = 0 := by rw [wrap_id (by omega) (by omega)]; rfl
  have w1 : wrap64 (0 - 1) = -1 := by rw [wrap_id (by omega) (by omega)]; rfl
  rw [impl_number.v_eq, if_pos (by omega), if_pos (by simp), w2, impl_number.lv0_eq, if_pos (by omega), if_pos (by omega), if_pos (by simp), w0, impl_number.lv0_eq, if_pos (by omega), if_pos (by omega), if_pos (by simp), w1, impl_number.lv0_eq, if_neg (by omega)]
  rfl
theorem be_front (j : Nat) : ∀ n : Int, beL n (j + 1) = (n / 256 ^ j % 256) :: beL n j := by
  induction j with
  | zero => intro n; simp [beL]
  | succ j ih =>
    intro n
    have h : beL n (j + 1 + 1) = beL (n / 256) (j + 1) ++ [n % 256] := rfl
    have h2 : n / 256 / 256 ^ j = n / 256 ^ (j + 1) := by
      rw [Int.ediv_ediv_of_nonneg (by omega), Int.pow_succ, Int.mul_comm]
    rw [h, ih, h2]
    rfl
theorem shr_at (n : Int) (j : Nat) (hj : j ≤ 7) : shr .i64 n (IntKind.u64.wrap (wrap64 (8 * (j : Int)))) = n / 256 ^ j := by
  have w : wrap64 (8 * (j : Int)) = ((8 * j : Nat) : Int) := by rw [wrap_id (by omega) (by omega)]; omega
  have w2 : IntKind.u64.wrap ((8 * j : Nat) : Int) = ((8 * j : Nat) : Int) := by
    have : 8 * j < 18446744073709551616 := by omega
    unfold IntKind.wrap
    simp [IntKind.bits, IntKind.signed]
    omega
  rw [w, w2]
  clear w w2
  unfold shr
  rw [Int.toNat_natCast, Nat.min_eq_left (by show 8 * j ≤ 64; omega), Int.pow_mul]
  rfl
theorem spec_number_l (n : Int) : ∀ (j : Nat) (acc : List Int), j ≤ 8 → acc.length + j ≤ 1000000 → spec_l02Number.lv0 n acc ((j : Int) - 1) = some (acc ++ beL n j)
  | 0, acc, hj, ha => by rw [spec_l02Number.lv0_eq, if_neg (by omega)]; simp [beL]
  | j + 1, acc, hj, ha => by
    have ih := spec_number_l n j (acc ++ [n / 256 ^ j % 256]) (by omega) (by rw [List.length_append]; show acc.length + 1 + j ≤ _; omega)
    have e : (((j + 1 : Nat) : Int) - 1) = (j : Int) := by omega
    have hs := shr_at n j (by omega)
    have h0 : 0 ≤ IntKind.u64.wrap (wrap64 (8 * (j : Int))) := by
      have w : wrap64 (8 * (j : Int)) = ((8 * j : Nat) : Int) := by rw [wrap_id (by omega) (by omega)]; omega
      rw [w]
      clear w hs
      unfold IntKind.wrap
      simp [IntKind.bits, IntKind.signed]
      omega
    have w : wrap64 ((j : Int) - 1) = (j : Int) - 1 := wrap_id (by omega) (by omega)
    have c1 : (j : Int) ≥ 0 := by omega
    have c2 : acc.length < 140737488355328 := by omega
    rw [e, spec_l02Number.lv0_eq, if_pos c1, if_pos h0, if_pos c2, hs, w, ih, be_front, List.append_assoc]
    rfl
theorem spec_number_v (n : Int) (k : Nat) (hk : k ≤ 8) : spec_l02Number.v n k = some (beL n k) := by
  have w : wrap64 ((k : Int) - 1) = (k : Int) - 1 := wrap_id (by omega) (by omega)
  rw [spec_l02Number.v_eq, w, spec_number_l n k [] hk (by simp; omega)]
  rfl
/-- A text behind its length of two bytes; a list of them. -/
def encT (t : ByteArray) : List Int := beL t.size 2 ++ bytesOf t
def encR : List ByteArray → List Int
  | [] => []
  | t :: r => encT t ++ encR r
theorem encT_len (t : ByteArray) : (encT t).length = 2 + t.size := by unfold encT; rw [List.length_append, beL_len, bytesOf_length]
theorem encR_len (t : ByteArray) (r : List ByteArray) : (encR (t :: r)).length = 2 + t.size + (encR r).length := by
  show (encT t ++ encR r).length = _
  rw [List.length_append, encT_len]
theorem rdOf_at (l : List ByteArray) (i : Nat) (h : i < l.length) : rdOf ByteArray.empty l i = l[i] := by
  unfold rdOf
  rw [Int.toNat_natCast, List.getD_eq_getElem?_getD, List.getElem?_eq_getElem h]
  rfl
theorem spec_list_l (l : List ByteArray) (hl : l.length ≤ 100) (ht : ∀ t ∈ l, t.size ≤ 20000) : ∀ (k i : Nat) (x : List Int), l.length - i = k → i ≤ l.length → x.length + (encR (l.drop i)).length ≤ 65536 →
    spec_l02List.lv0 l x i = some (x ++ encR (l.drop i))
  | 0, i, x, h, hi, hx => by
    rw [spec_l02List.lv0_eq, if_neg (by omega), List.drop_of_length_le (by omega)]
    simp [encR]
  | k + 1, i, x, h, hi, hx => by
    have hlt : i < l.length := by omega
    have hd : l.drop i = l[i] :: l.drop (i + 1) := List.drop_eq_getElem_cons hlt
    rw [hd, encR_len] at hx
    have hb := beL_len (l[i].size : Int) 2
    have ih := spec_list_l l hl ht k (i + 1) (x ++ beL (l[i].size : Int) 2 ++ bytesOf l[i]) (by omega) (by omega) (by simp only [List.length_append, hb, bytesOf_length]; omega)
    have c1 : (i : Int) < (l.length : Int) := by omega
    have c2 : (0 : Int) ≤ (i : Int) := by omega
    have c4 : x.length + (beL (l[i].size : Int) 2).length < 140737488355328 := by omega
    have c5 : (x ++ beL (l[i].size : Int) 2).length + l[i].size < 140737488355328 := by rw [List.length_append]; omega
    have hn : spec_l02Number.v (l[i].size : Int) 2 = some (beL (l[i].size : Int) 2) := spec_number_v _ 2 (by omega)
    rw [spec_l02List.lv0_eq]
    have w : wrap64 ((i : Int) + 1) = ((i + 1 : Nat) : Int) := by rw [wrap_id (by omega) (by omega)]; omega
    simp only [w, if_pos c1, if_pos c2, rdOf_at l i hlt, hn, Option.bind_some, if_pos c4, if_pos c5, ih]
    rw [hd]
    simp [encR, encT, List.append_assoc]
theorem spec_l02List_v (l : List ByteArray) (hl : l.length ≤ 100) (ht : ∀ t ∈ l, t.size ≤ 20000) (hs : 1 + (encR l).length ≤ 65536) : spec_l02List.v l = some (beL l.length 1 ++ encR l) := by
  have h := spec_list_l l hl ht l.length 0 [(l.length : Int) % 256] (by omega) (by omega) (by simpa [Nat.add_comm] using hs)
  rw [spec_l02List.v_eq]
  exact h
theorem spec_l01In_v (n low high : Int) : spec_l01In.v n low high = some (inB n low high) := by
  rw [spec_l01In.v_eq]; unfold inB; split <;> simp <;> omega
theorem impl_within_v (n low high : Int) : impl_within.v n low high = some (inB n low high) := by
  rw [impl_within.v_eq]; unfold inB; split <;> simp <;> omega
def msgB (k v s f : Int) (d b m : ByteArray) : Bool :=
  inB k 1 5 && inB v 0 20 && inB f 0 6 && decide (m.size = 8) && decide (b.size ≤ 20000) && (if k ≤ 3 then inB s 1 8 && decide (d.size = 32) && (decide (b.size ≠ 0) == decide (k = 1)) else decide (s = 0) && decide (d.size = 0))
theorem spec_MessageOK_v (k v s f : Int) (d b m : ByteArray) : spec_MessageOK.v k v s f d b m = some (msgB k v s f d b m) := by
  rw [spec_MessageOK.v_eq]
  simp only [spec_l01In_v, Option.bind_some, spec_MessageOK.jv0_eq, ba_nil', ba_ne', msgB]
  have e4 : ((m.size : Int) = 8) = (m.size = 8) := propext ⟨by omega, by omega⟩
  have e5 : ((b.size : Int) > 20000) = ¬ (b.size ≤ 20000) := propext ⟨by omega, by omega⟩
  have e6 : ((d.size : Int) = 32) = (d.size = 32) := propext ⟨by omega, by omega⟩
  simp only [e4, e5, e6]
  generalize inB v 0 20 = q1
  generalize inB f 0 6 = q2
  generalize inB s 1 8 = q3
  by_cases hk : 1 ≤ k ∧ k ≤ 5
  · have hk2 : inB k 1 5 = true := by simp [inB, hk]
    rw [hk2]
    cases q1
    · simp
    cases q2
    · simp
    by_cases h4 : m.size = 8
    · by_cases h5 : b.size ≤ 20000
      · simp only [h4, h5, if_true, not_true_eq_false, decide_false, decide_true, Bool.false_eq_true, if_false, Bool.true_and, Bool.and_true]
        have hk3 : k = 1 ∨ k = 2 ∨ k = 3 ∨ k = 4 ∨ k = 5 := by omega
        rcases hk3 with rfl | rfl | rfl | rfl | rfl <;> cases q3 <;> by_cases h6 : d.size = 32 <;> by_cases h7 : b.size = 0 <;> by_cases h8 : s = 0 <;> simp [h6, h7, h8]
      · simp [h4, h5]
    · simp [h4]
  · have hk2 : inB k 1 5 = false := by simp only [inB, decide_eq_false_iff_not]; exact hk
    rw [hk2]; simp
theorem impl_MessageOK_v (k v s f : Int) (d b m : ByteArray) : impl_MessageOK.v k v s f d b m = some (msgB k v s f d b m) := by
  rw [impl_MessageOK.v_eq]
  simp only [impl_within_v, Option.bind_some, impl_MessageOK.jv0_eq, impl_MessageOK.jv1_eq, impl_isHash.v_eq, ba_nil', ba_ne', msgB]
  have e4 : ((m.size : Int) = 8) = (m.size = 8) := propext ⟨by omega, by omega⟩
  have e5 : ((b.size : Int) > 20000) = ¬ (b.size ≤ 20000) := propext ⟨by omega, by omega⟩
  have e6 : ((d.size : Int) == 32) = decide (d.size = 32) := by rw [Bool.eq_iff_iff]; simp; omega
  simp only [e4, e5, e6]
  generalize inB v 0 20 = q1
  generalize inB f 0 6 = q2
  generalize inB s 1 8 = q3
  cases q1
  · simp
  cases q2
  · simp
  by_cases h4 : m.size = 8
  · by_cases h5 : b.size ≤ 20000
    · simp only [h4, h5, if_true, not_true_eq_false, decide_false, decide_true, Bool.false_eq_true, if_false, Bool.true_and, Bool.and_true]
      by_cases hk : 1 ≤ k ∧ k ≤ 5
      · have hk2 : inB k 1 5 = true := by simp [inB, hk]
        rw [hk2]
        have hk3 : k = 1 ∨ k = 2 ∨ k = 3 ∨ k = 4 ∨ k = 5 := by omega
        rcases hk3 with rfl | rfl | rfl | rfl | rfl <;> cases q3 <;> by_cases h6 : d.size = 32 <;> by_cases h7 : b.size = 0 <;> by_cases h8 : s = 0 <;> simp [h6, h7, h8]
      · have hk2 : inB k 1 5 = false := by simp only [inB, decide_eq_false_iff_not]; exact hk
        rw [hk2]
        have h1 : ¬ k = 1 := by omega
        have h2 : ¬ k = 2 := by omega
        have h3 : ¬ k = 3 := by omega
        have h44 : ¬ k = 4 := by omega
        have h55 : ¬ k = 5 := by omega
        simp [h1, h2, h3, h44, h55]
    · simp [h4, h5]
  · simp [h4]
theorem spec_l02Of_l (s : ByteArray) (hs : s.size ≤ 6) : ∀ (d i : Nat), s.size - i = d → i ≤ s.size → ∀ n : Int, n = numL ((bytesOf s).take i) → spec_l02Of.lv0 s n i = some (numM s)
  | 0, i, h, hi, n, hn => by
    rw [spec_l02Of.lv0_eq, if_neg (by omega), hn, List.take_of_length_le (by rw [bytesOf_length]; omega)]; rfl
  | d + 1, i, h, hi, n, hn => by
    have hlt : i < s.size := by omega
    have hr := foldl_range ((bytesOf s).take i) 0 (fun c hc => bytesOf_range s c (List.mem_of_mem_take hc)) (by omega)
    have hlen : ((bytesOf s).take i).length = i := by rw [List.length_take, bytesOf_length]; omega
    rw [hlen] at hr
    have hp : (256 : Int) ^ i ≤ 256 ^ 5 := by
      have h5 : i = 0 ∨ i = 1 ∨ i = 2 ∨ i = 3 ∨ i = 4 ∨ i = 5 := by omega
      rcases h5 with rfl | rfl | rfl | rfl | rfl | rfl <;> decide
    have hn2 : 0 ≤ n ∧ n < 256 ^ 5 := by rw [hn]; unfold numL; omega
    have hb := bt_range s i
    rw [spec_l02Of.lv0_eq, if_pos (by omega), if_pos (by omega), wrap_id (x := n * 256) (by omega) (by omega), wrap_id (x := bt s i) (by omega) (by omega), wrap_id (x := n * 256 + bt s i) (by omega) (by omega), wrap_id (x := (i : Int) + 1) (by omega) (by omega)]
    refine spec_l02Of_l s hs d (i + 1) (by omega) (by omega) _ ?_
    rw [List.take_succ_eq_append_getElem (by rw [bytesOf_length]; omega)]
    unfold numL
    rw [List.foldl_append]
    simp only [List.foldl_cons, List.foldl_nil]
    have h1 : (bytesOf s)[i]'(by rw [bytesOf_length]; omega) = bt s i := by
      rw [← bytesOf_rd s i (by omega) (by omega)]
      unfold rd
      rw [Int.toNat_natCast, List.getD, List.getElem?_eq_getElem (by rw [bytesOf_length]; omega)]
      rfl
    rw [h1, hn]
    rfl
theorem spec_l02Of_v (s : ByteArray) (hs : s.size ≤ 6) : spec_l02Of.v s = some (numM s) := by
  rw [spec_l02Of.v_eq]
  exact spec_l02Of_l s hs s.size 0 rfl (by omega) 0 rfl
theorem wrap_bt (x : ByteArray) (i : Int) : wrap64 (bt x i) = bt x i := by
  have := bt_range x i
  exact wrap_id (by omega) (by omega)
/-- Where a message's parts lie in its bytes: how long the digest is, how long the body is. -/
def mD (x : ByteArray) : Nat := (bt x 4).toNat
def mB (x : ByteArray) : Nat := (numM (x.extract (5 + mD x) (7 + mD x))).toNat
def mFits (x : ByteArray) : Bool := decide (15 + mD x + mB x = x.size)
def mOK (x : ByteArray) : Bool := mFits x && msgB (bt x 0) (bt x 1) (bt x 2) (bt x 3) (x.extract 5 (5 + mD x)) (x.extract (7 + mD x) (7 + mD x + mB x)) (x.extract (7 + mD x + mB x) x.size)
abbrev Msg7 := Int × Int × Int × Int × ByteArray × ByteArray × ByteArray × Bool
def mNo : Msg7 := (0, 0, 0, 0, ⟨#[]⟩, ⟨#[]⟩, ⟨#[]⟩, false)
def mYes (x : ByteArray) : Msg7 := (bt x 0, bt x 1, bt x 2, bt x 3, x.extract 5 (5 + mD x), x.extract (7 + mD x) (7 + mD x + mB x), x.extract (7 + mD x + mB x) x.size, true)
theorem impl_readMessage_v (x : ByteArray) : impl_readMessage.v x = some (if mOK x = true then mYes x else mNo) := by
  rw [impl_readMessage.v_eq]
  conv => lhs; rw [at_zero x]
  have bad : ∀ (t : ByteArray), impl_reader_done.v t true = some (false, t, true) := done_bad
  have sized : ∀ (t : ByteArray) (b : Bool) (n : Int), impl_reader_sized.v t b n = (impl_reader_number.v t b n).bind fun r => (impl_reader_take.v r.2.1 r.2.2 r.1).bind fun q => some (q.1, q.2.1, q.2.2) := fun t b n => impl_reader_sized.v_eq t b n
  have hs := x.size
  rcases Nat.lt_or_ge x.size (0 + 1) with h0 | h0
  · have hno : mOK x = false := by unfold mOK mFits; simp; intro h; omega
    rw [show (1 : Int) = ((1 : Nat) : Int) from rfl, number_short x 0 1 (by omega) (by omega)]
    simp [number_bad, sized, take_bad, bad, hno, mNo]
  rw [show (1 : Int) = ((1 : Nat) : Int) from rfl, number_ok x 0 1 h0 (by omega), Option.bind_some]
  simp only
  rcases Nat.lt_or_ge x.size (0 + 1 + 1) with h1 | h1
  · have hno : mOK x = false := by unfold mOK mFits; simp; intro h; omega
    rw [number_short x (0 + 1) 1 (by omega) (by omega)]
    simp [number_bad, sized, take_bad, bad, hno, mNo]
  rw [number_ok x (0 + 1) 1 h1 (by omega), Option.bind_some]
  simp only
  rcases Nat.lt_or_ge x.size (0 + 1 + 1 + 1) with h2 | h2
  · have hno : mOK x = false := by unfold mOK mFits; simp; intro h; omega
    rw [number_short x (0 + 1 + 1) 1 (by omega) (by omega)]
    simp [number_bad, sized, take_bad, bad, hno, mNo]
  rw [number_ok x (0 + 1 + 1) 1 h2 (by omega), Option.bind_some]
  simp only
  rcases Nat.lt_or_ge x.size (0 + 1 + 1 + 1 + 1) with h3 | h3
  · have hno : mOK x = false := by unfold mOK mFits; simp; intro h; omega
    rw [number_short x (0 + 1 + 1 + 1) 1 (by omega) (by omega)]
    simp [number_bad, sized, take_bad, bad, hno, mNo]
  rw [number_ok x (0 + 1 + 1 + 1) 1 h3 (by omega), Option.bind_some]
  simp only
  rcases Nat.lt_or_ge x.size (4 + 1) with h4 | h4
  · have hno : mOK x = false := by unfold mOK mFits; simp; intro h; omega
    rw [sized, number_short x 4 1 (by omega) (by omega)]
    simp [number_bad, sized, take_bad, bad, hno, mNo]
  rw [sized, number_ok x 4 1 h4 (by omega), Option.bind_some]
  simp only
  have hb4 := bt_range x 4
  have hD : numM (x.extract 4 (4 + 1)) = ((mD x : Nat) : Int) := by
    rw [numM_one x 4 (by omega)]
    unfold mD
    rw [Int.toNat_of_nonneg hb4.1]; rfl
  rw [hD]
  rcases Nat.lt_or_ge x.size (4 + 1 + mD x) with h5 | h5
  · have hno : mOK x = false := by unfold mOK mFits; simp; intro h; omega
    rw [take_short x (4 + 1) (mD x) (by omega) (by omega)]
    simp [number_bad, sized, take_bad, bad, hno, mNo]
  rw [take_ok x (4 + 1) (mD x) h5, Option.bind_some, Option.bind_some]
  simp only
  rcases Nat.lt_or_ge x.size (4 + 1 + mD x + 2) with h6 | h6
  · have hno : mOK x = false := by unfold mOK mFits; simp; intro h; omega
    rw [sized, show (2 : Int) = ((2 : Nat) : Int) from rfl, number_short x (4 + 1 + mD x) 2 (by omega) (by omega)]
    simp [number_bad, sized, take_bad, bad, hno, mNo]
  rw [sized, show (2 : Int) = ((2 : Nat) : Int) from rfl, number_ok x (4 + 1 + mD x) 2 h6 (by omega), Option.bind_some]
  simp only
  have hB : numM (x.extract (4 + 1 + mD x) (4 + 1 + mD x + 2)) = ((mB x : Nat) : Int) := by
    unfold mB
    rw [Int.toNat_of_nonneg (numM_range _).1, show 4 + 1 + mD x = 5 + mD x by omega, show 5 + mD x + 2 = 7 + mD x by omega]
  rw [hB]
  rcases Nat.lt_or_ge x.size (4 + 1 + mD x + 2 + mB x) with h7 | h7
  · have hno : mOK x = false := by unfold mOK mFits; simp; intro h; omega
    rw [take_short x (4 + 1 + mD x + 2) (mB x) (by omega) (by omega)]
    simp [number_bad, sized, take_bad, bad, hno, mNo]
  rw [take_ok x (4 + 1 + mD x + 2) (mB x) h7, Option.bind_some, Option.bind_some]
  simp only
  rcases Nat.lt_or_ge x.size (4 + 1 + mD x + 2 + mB x + 8) with h8 | h8
  · have hno : mOK x = false := by unfold mOK mFits; simp; intro h; omega
    rw [show (8 : Int) = ((8 : Nat) : Int) from rfl, take_short x (4 + 1 + mD x + 2 + mB x) 8 (by omega) (by omega)]
    simp [bad, hno, mNo]
  rw [show (8 : Int) = ((8 : Nat) : Int) from rfl, take_ok x (4 + 1 + mD x + 2 + mB x) 8 h8, Option.bind_some]
  simp only
  rw [done_at x _ h8, Option.bind_some]
  simp only
  by_cases h9 : 15 + mD x + mB x = x.size
  · have e0 : numM (x.extract 0 (0 + 1)) = bt x 0 := numM_one x 0 (by omega)
    have e1 : numM (x.extract (0 + 1) (0 + 1 + 1)) = bt x 1 := numM_one x 1 (by omega)
    have e2 : numM (x.extract (0 + 1 + 1) (0 + 1 + 1 + 1)) = bt x 2 := numM_one x 2 (by omega)
    have e3 : numM (x.extract (0 + 1 + 1 + 1) (0 + 1 + 1 + 1 + 1)) = bt x 3 := numM_one x 3 (by omega)
    rw [if_pos (by simp; omega), e0, e1, e2, e3, impl_MessageOK_v, Option.bind_some, show 4 + 1 = 5 by rfl, show 5 + mD x + 2 = 7 + mD x by omega, show 7 + mD x + mB x + 8 = x.size by omega]
    unfold mOK mFits
    rw [decide_eq_true h9, Bool.true_and]
    unfold mYes mNo
    split <;> rfl
  · have hno : mOK x = false := by unfold mOK mFits; simp [h9]
    rw [if_neg (by simp; omega)]
    simp [hno, mNo]
theorem spec_l02ReadMessage_v (x : ByteArray) (hx : x.size ≤ 9223372036854775000) : ∃ r : Msg7, spec_l02ReadMessage.v x = some r ∧ ((mOK x = true ∧ r = mYes x) ∨ (mOK x = false ∧ r.2.2.2.2.2.2.2 = false)) := by
  rw [spec_l02ReadMessage.v_eq]
  by_cases h7 : (x.size : Int) < 7
  · rw [if_pos h7, spec_l02ReadMessage.jv0_eq, if_pos rfl]
    exact ⟨_, rfl, .inr ⟨by unfold mOK mFits; simp; intro h; omega, rfl⟩⟩
  rw [if_neg h7, if_pos (by omega), spec_l02ReadMessage.jv0_eq]
  have hb4 := bt_range x 4
  have hD : bt x 4 = ((mD x : Nat) : Int) := by unfold mD; rw [Int.toNat_of_nonneg hb4.1]
  rw [hD]
  have hm : mD x ≤ 255 := by omega
  have w0 : wrap64 ((mD x : Nat) : Int) = ((mD x : Nat) : Int) := wrap_id (by omega) (by omega)
  have w1 : wrap64 (7 + ((mD x : Nat) : Int)) = ((7 + mD x : Nat) : Int) := by rw [wrap_id (by omega) (by omega)]; omega
  have w2 : wrap64 (5 + ((mD x : Nat) : Int)) = ((5 + mD x : Nat) : Int) := by rw [wrap_id (by omega) (by omega)]; omega
  have w3 : wrap64 (((5 + mD x : Nat) : Int) + 2) = ((7 + mD x : Nat) : Int) := by rw [wrap_id (by omega) (by omega)]; omega
  simp only [w0, w1, w2, w3]
  clear w0 w1 w2 w3
  by_cases h8 : (x.size : Int) < ((7 + mD x : Nat) : Int)
  · rw [if_pos (by simpa using h8)]
    exact ⟨_, rfl, .inr ⟨by unfold mOK mFits; simp; intro h; omega, rfl⟩⟩
  have d1 : (4 : Int) < x.size := by omega
  have d2 : (0 : Int) ≤ ((5 + mD x : Nat) : Int) := by omega
  have d3 : ((5 + mD x : Nat) : Int) ≤ ((7 + mD x : Nat) : Int) := by omega
  have d4 : ((7 + mD x : Nat) : Int) ≤ x.size := by omega
  have d5 := spec_l02Of_v (x.extract (5 + mD x) (7 + mD x)) (by rw [ByteArray.size_extract]; omega)
  simp only [decide_eq_false h8, Bool.false_eq_true, if_false, if_pos d1, if_pos d2, if_pos d3, if_pos d4, Int.toNat_natCast, d5, Option.bind_some]
  have hB : numM (x.extract (5 + mD x) (7 + mD x)) = ((mB x : Nat) : Int) := by unfold mB; rw [Int.toNat_of_nonneg (numM_range _).1]
  have hB2 : mB x < 65536 := by
    have h1 := (numM_range (x.extract (5 + mD x) (7 + mD x))).2
    rw [ByteArray.size_extract, show min (7 + mD x) x.size - (5 + mD x) = 2 by omega, hB] at h1
    omega
  rw [hB]
  have w4 : wrap64 (((7 + mD x : Nat) : Int) + ((mB x : Nat) : Int)) = ((7 + mD x + mB x : Nat) : Int) := by rw [wrap_id (by omega) (by omega)]; omega
  have w5 : wrap64 (((7 + mD x + mB x : Nat) : Int) + 8) = ((15 + mD x + mB x : Nat) : Int) := by rw [wrap_id (by omega) (by omega)]; omega
  simp only [w4, w5]
  clear w4 w5
  by_cases h9 : (x.size : Int) = ((15 + mD x + mB x : Nat) : Int)
  · have hb0 := bt_range x 0
    have hb1 := bt_range x 1
    have hb2 := bt_range x 2
    have hb3 := bt_range x 3
    have c1 : (0 : Int) < x.size := by omega
    have c2 : (1 : Int) < x.size := by omega
    have c3 : (2 : Int) < x.size := by omega
    have c4 : (3 : Int) < x.size := by omega
    have c5 : (5 : Int) ≤ ((5 + mD x : Nat) : Int) := by omega
    have c6 : ((5 + mD x : Nat) : Int) ≤ x.size := by omega
    have c7 : (0 : Int) ≤ ((7 + mD x : Nat) : Int) := by omega
    have c8 : ((7 + mD x : Nat) : Int) ≤ ((7 + mD x + mB x : Nat) : Int) := by omega
    have c9 : ((7 + mD x + mB x : Nat) : Int) ≤ x.size := by omega
    have c10 : (0 : Int) ≤ ((7 + mD x + mB x : Nat) : Int) := by omega
    simp only [if_pos h9, if_pos c1, if_pos c2, if_pos c3, if_pos c4, if_pos c5, if_pos c6, if_pos c7, if_pos c8, if_pos c9, if_pos c10, wrap_bt, spec_MessageOK_v, Option.bind_some]
    refine ⟨_, rfl, ?_⟩
    simp only [Int.toNat_natCast]
    have hf : mFits x = true := by unfold mFits; simp; omega
    cases hq : msgB (bt x 0) (bt x 1) (bt x 2) (bt x 3) (x.extract 5 (5 + mD x)) (x.extract (7 + mD x) (7 + mD x + mB x)) (x.extract (7 + mD x + mB x) x.size)
    · exact .inr ⟨by unfold mOK; rw [hq]; simp, rfl⟩
    · exact .inl ⟨by unfold mOK; rw [hq, hf]; rfl, rfl⟩
  · rw [if_neg h9]
    exact ⟨_, rfl, .inr ⟨by unfold mOK mFits; simp; intro h; omega, rfl⟩⟩
theorem readMessage_eq (l : List Int) (h : l.length ≤ 1048576) : ∃ r : Int × Int × Int × Int × ByteArray × ByteArray × ByteArray × Int, spec_ReadMessage.v l = some r ∧ impl_ReadMessage.v l = some r := by
  rw [spec_ReadMessage.v_eq, impl_ReadMessage.v_eq]
  by_cases h1 : (l.length : Int) > 65536
  · simp only [if_pos h1]; exact ⟨_, rfl, rfl⟩
  · rw [if_neg h1, if_neg h1, impl_readMessage_v]
    obtain ⟨r, e, h2⟩ := spec_l02ReadMessage_v (strOfNums l) (by rw [strOf_size]; omega)
    rw [e, Option.bind_some, Option.bind_some]
    rcases h2 with ⟨h2, rfl⟩ | ⟨h2, h3⟩
    · rw [h2, if_pos rfl]
      exact ⟨_, rfl, rfl⟩
    · simp only [h2, h3, Bool.false_eq_true, if_false, mNo]
      exact ⟨_, rfl, rfl⟩
def plainL (k v s f : Int) (d b : ByteArray) : List Int := [k % 256, v % 256, s % 256, f % 256, (d.size : Int) % 256] ++ (bytesOf d ++ (beL b.size 2 ++ bytesOf b))
def msgL (k v s f : Int) (d b m : ByteArray) : List Int := plainL k v s f d b ++ bytesOf m
theorem byteL_plain (k v s f : Int) (d b : ByteArray) : byteL (plainL k v s f d b) :=
  byteL_append (byteL_cons (by omega) (by omega) (byteL_cons (by omega) (by omega) (byteL_cons (by omega) (by omega) (byteL_cons (by omega) (by omega) (byteL_cons (by omega) (by omega) byteL_nil))))) (byteL_append (byteL_bytes d) (byteL_append (byteL_be _ _) (byteL_bytes b)))
theorem plainL_len (k v s f : Int) (d b : ByteArray) : (plainL k v s f d b).length = 7 + d.size + b.size := by
  unfold plainL
  simp only [List.length_append, List.length_cons, List.length_nil, beL_len, bytesOf_length]
  omega
theorem byteL_msg (k v s f : Int) (d b m : ByteArray) : byteL (msgL k v s f d b m) := byteL_append (byteL_plain k v s f d b) (byteL_bytes m)
theorem msgL_len (k v s f : Int) (d b m : ByteArray) : (msgL k v s f d b m).length = 7 + d.size + b.size + m.size := by
  unfold msgL
  rw [List.length_append, plainL_len, bytesOf_length]
theorem impl_bareText_v (k v s f : Int) (d b m : ByteArray) (hd : d.size ≤ 1000000) (hb : b.size ≤ 1000000) : impl_bareText.v k v s f d b m = some (strOfNums (plainL k v s f d b)) := by
  have e : plainL k v s f d b = beL k 1 ++ beL v 1 ++ beL s 1 ++ beL f 1 ++ beL (d.size : Int) 1 ++ bytesOf d ++ beL (b.size : Int) 2 ++ bytesOf b := by simp [plainL, beL, List.append_assoc]
  rw [impl_bareText.v_eq]
  simp only [impl_number1, impl_number2, Option.bind_some, ByteArray.size_append, strOf_size, beL_len]
  rw [if_pos (by omega), if_pos (by omega), if_pos (by omega), if_pos (by omega), if_pos (by omega), if_pos (by omega), if_pos (by omega), e, str_append, str_append, str_append, str_append, str_append, str_append, str_append, str_bytes, str_bytes]
theorem impl_messageText_v (k v s f : Int) (d b m : ByteArray) (hd : d.size ≤ 1000000) (hb : b.size ≤ 1000000) (hm : m.size ≤ 1000000) : impl_messageText.v k v s f d b m = some (strOfNums (msgL k v s f d b m)) := by
  rw [impl_messageText.v_eq, impl_bareText_v k v s f d b m hd hb, Option.bind_some, if_pos (by rw [strOf_size, plainL_len]; omega)]
  unfold msgL
  rw [str_append, str_bytes]
theorem spec_l02Plain_v (k v s f : Int) (d b m : ByteArray) (hd : d.size ≤ 1000000) (hb : b.size ≤ 1000000) : spec_l02Plain.v k v s f d b m = some (plainL k v s f d b) := by
  have hn : spec_l02Number.v (b.size : Int) 2 = some (beL (b.size : Int) 2) := spec_number_v _ 2 (by omega)
  rw [spec_l02Plain.v_eq, Option.bind_some, if_pos (by simp; omega), Option.bind_some, hn, Option.bind_some]
  rw [if_pos (by simp [beL_len, bytesOf_length]; omega), Option.bind_some, if_pos (by simp [beL_len, bytesOf_length]; omega)]
  simp [plainL, List.append_assoc]
theorem spec_l02Message_v (k v s f : Int) (d b m : ByteArray) (hd : d.size ≤ 1000000) (hb : b.size ≤ 1000000) (hm : m.size ≤ 1000000) : spec_l02Message.v k v s f d b m = some (msgL k v s f d b m) := by
  rw [spec_l02Message.v_eq, spec_l02Plain_v k v s f d b m hd hb, Option.bind_some, if_pos (by rw [plainL_len]; omega)]
  rfl
theorem msgB_sizes {k v s f : Int} {d b m : ByteArray} (h : msgB k v s f d b m = true) : 1 ≤ k ∧ k ≤ 5 ∧ 0 ≤ v ∧ v ≤ 20 ∧ 0 ≤ f ∧ f ≤ 6 ∧ 0 ≤ s ∧ s ≤ 8 ∧ m.size = 8 ∧ b.size ≤ 20000 ∧ d.size ≤ 32 := by
  unfold msgB inB at h
  simp only [Bool.and_eq_true, decide_eq_true_eq] at h
  obtain ⟨⟨⟨⟨⟨h1, h2⟩, h3⟩, h4⟩, h5⟩, h6⟩ := h
  by_cases hk : k ≤ 3
  · rw [if_pos hk] at h6
    simp only [Bool.and_eq_true, decide_eq_true_eq] at h6
    omega
  · rw [if_neg hk] at h6
    simp only [Bool.and_eq_true, decide_eq_true_eq] at h6
    omega
theorem impl_MessageBytes_v (k v s f : Int) (d b m : ByteArray) (h : msgB k v s f d b m = true) : impl_MessageBytes.v k v s f d b m = some (msgL k v s f d b m, 0) := by
  obtain ⟨_, _, _, _, _, _, _, _, h1, h2, h3⟩ := msgB_sizes h
  rw [impl_MessageBytes.v_eq, impl_MessageOK_v, Option.bind_some, if_pos h, impl_messageText_v k v s f d b m (by omega) (by omega) (by omega), Option.bind_some, if_pos (by rw [strOf_size, msgL_len]; omega), bytes_str _ (byteL_msg k v s f d b m)]
theorem spec_MessageBytes_v (k v s f : Int) (d b m : ByteArray) (h : msgB k v s f d b m = true) : spec_MessageBytes.v k v s f d b m = some (msgL k v s f d b m, 0) := by
  obtain ⟨_, _, _, _, _, _, _, _, h1, h2, h3⟩ := msgB_sizes h
  rw [spec_MessageBytes.v_eq, spec_MessageOK_v, Option.bind_some, if_pos h, spec_l02Message_v k v s f d b m (by omega) (by omega) (by omega), Option.bind_some]
theorem bt_str (l : List Int) (h : byteL l) (i : Int) (h0 : 0 ≤ i) (h1 : i < l.length) : bt (strOfNums l) i = rd l i := by
  rw [← bytesOf_rd _ _ h0 (by rw [strOf_size]; exact h1), bytes_str l h]
theorem msg_read (k v s f : Int) (d b m : ByteArray) (h : msgB k v s f d b m = true) : impl_readMessage.v (strOfNums (msgL k v s f d b m)) = some (k, v, s, f, d, b, m, true) := by
  obtain ⟨q1, q2, q3, q4, q5, q6, q7, q8, q9, qa, qb⟩ := msgB_sizes h
  have hl := msgL_len k v s f d b m
  have hB := byteL_msg k v s f d b m
  have hsz : (strOfNums (msgL k v s f d b m)).size = 15 + d.size + b.size := by rw [strOf_size, hl]; omega
  have e0 : msgL k v s f d b m = [k % 256, v % 256, s % 256, f % 256, (d.size : Int) % 256] ++ (bytesOf d ++ (beL b.size 2 ++ (bytesOf b ++ bytesOf m))) := by simp [msgL, plainL, List.append_assoc]
  have b0 : bt (strOfNums (msgL k v s f d b m)) 0 = k := by rw [bt_str _ hB 0 (by omega) (by omega), e0]; show k % 256 = k; omega
  have b1 : bt (strOfNums (msgL k v s f d b m)) 1 = v := by rw [bt_str _ hB 1 (by omega) (by omega), e0]; show v % 256 = v; omega
  have b2 : bt (strOfNums (msgL k v s f d b m)) 2 = s := by rw [bt_str _ hB 2 (by omega) (by omega), e0]; show s % 256 = s; omega
  have b3 : bt (strOfNums (msgL k v s f d b m)) 3 = f := by rw [bt_str _ hB 3 (by omega) (by omega), e0]; show f % 256 = f; omega
  have b4 : bt (strOfNums (msgL k v s f d b m)) 4 = d.size := by rw [bt_str _ hB 4 (by omega) (by omega), e0]; show (d.size : Int) % 256 = d.size; omega
  have hD : mD (strOfNums (msgL k v s f d b m)) = d.size := by unfold mD; rw [b4]; omega
  have x1 : (strOfNums (msgL k v s f d b m)).extract 5 (5 + d.size) = d := by
    have := ext_mid [k % 256, v % 256, s % 256, f % 256, (d.size : Int) % 256] (bytesOf d) (beL b.size 2 ++ (bytesOf b ++ bytesOf m))
    rw [bytesOf_length, str_bytes] at this
    rw [e0]; exact this
  have x2 : (strOfNums (msgL k v s f d b m)).extract (5 + d.size) (7 + d.size) = strOfNums (beL b.size 2) := by
    have := ext_mid ([k % 256, v % 256, s % 256, f % 256, (d.size : Int) % 256] ++ bytesOf d) (beL b.size 2) (bytesOf b ++ bytesOf m)
    rw [List.length_append, bytesOf_length, beL_len, List.append_assoc] at this
    rw [e0, show 7 + d.size = 5 + d.size + 2 by omega]; exact this
  have hMB : mB (strOfNums (msgL k v s f d b m)) = b.size := by
    unfold mB
    rw [hD, x2, numM_str _ (byteL_be _ _), numL_be 2 _ (by omega) (by show (b.size : Int) < 65536; omega)]
    omega
  have x3 : (strOfNums (msgL k v s f d b m)).extract (7 + d.size) (7 + d.size + b.size) = b := by
    have := ext_mid ([k % 256, v % 256, s % 256, f % 256, (d.size : Int) % 256] ++ bytesOf d ++ beL b.size 2) (bytesOf b) (bytesOf m)
    rw [List.length_append, List.length_append, bytesOf_length, beL_len, bytesOf_length, str_bytes, List.append_assoc, List.append_assoc] at this
    rw [e0, show 7 + d.size = 5 + d.size + 2 by omega]; exact this
  have x4 : (strOfNums (msgL k v s f d b m)).extract (7 + d.size + b.size) (strOfNums (msgL k v s f d b m)).size = m := by
    have := ext_mid (plainL k v s f d b) (bytesOf m) []
    rw [plainL_len, bytesOf_length, str_bytes, List.append_nil] at this
    rw [hsz, show 15 + d.size + b.size = 7 + d.size + b.size + m.size by omega]; exact this
  have hF : mFits (strOfNums (msgL k v s f d b m)) = true := by unfold mFits; rw [hD, hMB, hsz]; exact decide_eq_true rfl
  have hOK : mOK (strOfNums (msgL k v s f d b m)) = true := by
    unfold mOK
    rw [hF, hD, hMB, b0, b1, b2, b3, x1, x3, x4, h]; rfl
  rw [impl_readMessage_v, if_pos hOK]
  unfold mYes
  rw [hD, hMB, b0, b1, b2, b3, x1, x3, x4]
theorem msg_written (x : ByteArray) (h : mOK x = true) : msgL (bt x 0) (bt x 1) (bt x 2) (bt x 3) (x.extract 5 (5 + mD x)) (x.extract (7 + mD x) (7 + mD x + mB x)) (x.extract (7 + mD x + mB x) x.size) = bytesOf x := by
  have hF : 15 + mD x + mB x = x.size := by
    unfold mOK at h
    rw [Bool.and_eq_true] at h
    exact of_decide_eq_true h.1
  have hL : (bytesOf x).length = x.size := bytesOf_length x
  have r4 := bt_range x 4
  have hs1 : (x.extract 5 (5 + mD x)).size = mD x := by rw [ByteArray.size_extract]; omega
  have hs2 : (x.extract (7 + mD x) (7 + mD x + mB x)).size = mB x := by rw [ByteArray.size_extract]; omega
  have hbe : beL ((mB x : Nat) : Int) 2 = ((bytesOf x).take (7 + mD x)).drop (5 + mD x) := by
    have hr := numM_range (x.extract (5 + mD x) (7 + mD x))
    have : ((mB x : Nat) : Int) = numM (x.extract (5 + mD x) (7 + mD x)) := by unfold mB; omega
    rw [this]
    unfold numM
    rw [be_numL 2 _ (by rw [bytesOf_length, ByteArray.size_extract]; omega) (byteL_bytes _), bytes_extract]
  have hd4 : (((mD x : Nat) : Int)) % 256 = bt x 4 := by unfold mD; omega
  have hb : ∀ i : Nat, i < x.size → (bytesOf x)[i]? = some (bt x i) := by
    intro i hi
    have := bytesOf_rd x i (by omega) (by omega)
    unfold rd at this
    rw [Int.toNat_natCast, List.getD_eq_getElem?_getD, List.getElem?_eq_getElem (by omega)] at this
    rw [List.getElem?_eq_getElem (by omega)]
    exact congrArg some this
  have h5 : (bytesOf x).take 5 = [bt x 0 % 256, bt x 1 % 256, bt x 2 % 256, bt x 3 % 256, bt x 4] := by
    have m0 : ∀ i, bt x i % 256 = bt x i := fun i => by have := bt_range x i; omega
    rw [m0, m0, m0, m0]
    apply List.ext_getElem?
    intro i
    rcases Nat.lt_or_ge i 5 with hi | hi
    · rw [List.getElem?_take_of_lt hi, hb i (by omega)]
      have : i = 0 ∨ i = 1 ∨ i = 2 ∨ i = 3 ∨ i = 4 := by omega
      rcases this with rfl | rfl | rfl | rfl | rfl <;> rfl
    · rw [List.getElem?_eq_none (by rw [List.length_take]; omega), List.getElem?_eq_none (by simp; omega)]
  unfold msgL plainL
  rw [hs1, hs2, hbe, hd4, ← h5, bytes_extract, bytes_extract, bytes_extract]
  have cat : ∀ (l : List Int) (p q : Nat), p ≤ q → l.take p ++ (l.take q).drop p = l.take q := by
    intro l p q hpq
    have := List.take_append_drop p (l.take q)
    rw [List.take_take, Nat.min_eq_left hpq] at this
    exact this
  rw [← List.append_assoc, ← List.append_assoc, cat _ 5 _ (by omega), cat _ (5 + mD x) _ (by omega), cat _ (7 + mD x) _ (by omega), cat _ (7 + mD x + mB x) _ (by omega), List.take_of_length_le (by omega)]
/-- A place of at most m, a seed within its bounds. -/
def Src (m a s : Int) : Prop := 0 ≤ a ∧ a ≤ m ∧ 0 ≤ s ∧ s < 2147483648
theorem Src.mono {m m' a s : Int} (h : Src m a s) (hm : m ≤ m') : Src m' a s := ⟨h.1, Int.le_trans h.2.1 hm, h.2.2⟩
theorem rd_byte (l : List Int) (h : ∀ y ∈ l, (Lit.int .u8 y).wf = true) (i : Int) : 0 ≤ rd l i ∧ rd l i ≤ 255 := by
  unfold rd
  rw [List.getD]
  cases hq : l[i.toNat]? with
  | none => simp
  | some y => exact wf8 (h y (List.mem_of_getElem? hq))
theorem tmod_nn (x n : Int) (hx : 0 ≤ x) (hn : 0 < n) : 0 ≤ Int.tmod x n ∧ Int.tmod x n < n := by
  rw [Int.tmod_eq_emod_of_nonneg hx]
  exact ⟨Int.emod_nonneg _ (by omega), Int.emod_lt_of_pos _ hn⟩
theorem src_byte (code : List Int) (hc : ∀ y ∈ code, (Lit.int .u8 y).wf = true) (m a s : Int) (h : Src m a s) (hm : m ≤ 1000000000000) :
    ∃ r a' s', spec_l00Src_byte.v code a s = some (r, a', s') ∧ 0 ≤ r ∧ r ≤ 255 ∧ Src (m + 1) a' s' := by
  obtain ⟨h1, h2, h3, h4⟩ := h
  have w1 : wrap64 (a + 1) = a + 1 := wrap_id (by omega) (by omega)
  have w2 : wrap64 (a + 1 - 1) = a := by rw [wrap_id (by omega) (by omega)]; omega
  rw [spec_l00Src_byte.v_eq]
  simp only [w1, w2]
  clear w1 w2
  have hb := rd_byte code hc a
  by_cases hl : a + 1 ≤ (code.length : Int)
  · have c1 : a < (code.length : Int) := by omega
    rw [if_pos hl, if_pos h1, if_pos c1]
    have w3 : wrap64 (rd code a) = rd code a := wrap_id (by omega) (by omega)
    have w4 : wrap64 (s * 31) = s * 31 := wrap_id (by omega) (by omega)
    have w5 : wrap64 (s * 31 + rd code a) = s * 31 + rd code a := wrap_id (by omega) (by omega)
    have w6 : wrap64 (s * 31 + rd code a + 7) = s * 31 + rd code a + 7 := wrap_id (by omega) (by omega)
    simp only [w3, w4, w5, w6]
    clear w3 w4 w5 w6
    have ht := tmod_nn (s * 31 + rd code a + 7) 2147483648 (by omega) (by omega)
    exact ⟨_, _, _, rfl, hb.1, hb.2, by omega, by omega, ht.1, ht.2⟩
  · rw [if_neg hl]
    by_cases h5 : a + 1 > 3000
    · rw [if_pos h5]
      exact ⟨_, _, _, rfl, by omega, by omega, by omega, by omega, h3, h4⟩
    · rw [if_neg h5]
      have w3 : wrap64 (s * 1103515245) = s * 1103515245 := wrap_id (by omega) (by omega)
      have w4 : wrap64 (s * 1103515245 + 12345) = s * 1103515245 + 12345 := wrap_id (by omega) (by omega)
      simp only [w3, w4]
      clear w3 w4
      have ht := tmod_nn (s * 1103515245 + 12345) 2147483648 (by omega) (by omega)
      generalize Int.tmod (s * 1103515245 + 12345) 2147483648 = u at ht
      have hd : Int.tdiv u 65536 = u / 65536 := Int.tdiv_eq_ediv_of_nonneg ht.1
      have w5 : wrap64 (u / 65536) = u / 65536 := wrap_id (by omega) (by omega)
      rw [hd, w5]
      clear w5
      have h6 := tmod_nn (u / 65536) 256 (by omega) (by omega)
      exact ⟨_, _, _, rfl, h6.1, by omega, by omega, by omega, ht.1, ht.2⟩
theorem src_next (code : List Int) (hc : ∀ y ∈ code, (Lit.int .u8 y).wf = true) (m a s n : Int) (h : Src m a s) (hm : m ≤ 900000000000) (hn : 1 ≤ n) :
    ∃ r a' s', spec_l00Src_next.v code a s n = some (r, a', s') ∧ 0 ≤ r ∧ r < n ∧ Src (m + 3) a' s' := by
  rw [spec_l00Src_next.v_eq]
  by_cases h1 : n ≤ 1
  · rw [if_pos h1]
    obtain ⟨h2, h3, h4, h5⟩ := h
    exact ⟨_, _, _, rfl, by omega, by omega, h2, by omega, h4, h5⟩
  · rw [if_neg h1]
    obtain ⟨r, a1, s1, e1, r0, r1, i1⟩ := src_byte code hc m a s h (by omega)
    have n0 : ¬ n = 0 := by omega
    by_cases h2 : n ≤ 256
    · rw [if_pos h2, e1, Option.bind_some, if_neg n0]
      have := tmod_nn r n r0 (by omega)
      exact ⟨_, _, _, rfl, this.1, this.2, i1.mono (by omega)⟩
    · obtain ⟨q, a2, s2, e2, q0, q1, i2⟩ := src_byte code hc (m + 1) a1 s1 i1 (by omega)
      obtain ⟨p, a3, s3, e3, p0, p1, i3⟩ := src_byte code hc (m + 1 + 1) a2 s2 i2 (by omega)
      rw [if_neg h2, e1, Option.bind_some]
      simp only
      rw [e2, Option.bind_some]
      simp only
      rw [e3, Option.bind_some, if_neg n0]
      have w1 : wrap64 (r * 65536) = r * 65536 := wrap_id (by omega) (by omega)
      have w2 : wrap64 (q * 256) = q * 256 := wrap_id (by omega) (by omega)
      have w3 : wrap64 (r * 65536 + q * 256) = r * 65536 + q * 256 := wrap_id (by omega) (by omega)
      have w4 : wrap64 (r * 65536 + q * 256 + p) = r * 65536 + q * 256 + p := wrap_id (by omega) (by omega)
      simp only [w1, w2, w3, w4]
      clear w1 w2 w3 w4
      have := tmod_nn (r * 65536 + q * 256 + p) n (by omega) (by omega)
      exact ⟨_, _, _, rfl, this.1, this.2, i3.mono (by omega)⟩
theorem src_pick (code : List Int) (hc : ∀ y ∈ code, (Lit.int .u8 y).wf = true) (m a s : Int) (l : List ByteArray) (h : Src m a s) (hm : m ≤ 900000000000) (hl : 1 ≤ l.length) :
    ∃ x a' s', spec_l00Src_pick.v code a s l = some (x, a', s') ∧ x ∈ l ∧ Src (m + 3) a' s' := by
  obtain ⟨r, a1, s1, e1, r0, r1, i1⟩ := src_next code hc m a s l.length h hm (by omega)
  rw [spec_l00Src_pick.v_eq, if_neg (by omega), e1, Option.bind_some, if_pos r0, if_pos r1]
  refine ⟨_, _, _, rfl, ?_, i1⟩
  unfold rdOf
  rw [List.getD_eq_getElem?_getD, List.getElem?_eq_getElem (by omega)]
  exact List.getElem_mem _
theorem src_start (code : List Int) : ∃ s, spec_l00Source.v code = some (code, 0, s) ∧ Src 0 0 s := by
  rw [spec_l00Source.v_eq]
  refine ⟨_, rfl, by omega, by omega, ?_, ?_⟩ <;> omega
theorem src_chance (code : List Int) (hc : ∀ y ∈ code, (Lit.int .u8 y).wf = true) (m a s n : Int) (h : Src m a s) (hm : m ≤ 900000000000) (hn : 1 ≤ n) :
    ∃ b a' s', spec_l00Src_chance.v code a s n = some (b, a', s') ∧ Src (m + 3) a' s' := by
  obtain ⟨r, a1, s1, e1, r0, r1, i1⟩ := src_next code hc m a s n h hm hn
  rw [spec_l00Src_chance.v_eq, e1, Option.bind_some]
  exact ⟨_, _, _, rfl, i1⟩
def turnF (x n : Int) : Int := Go.bits .or .u32 (shr .u32 x n) (shl .u32 x (32 - n))
theorem u64_small (n : Int) (h0 : 0 ≤ n) (h1 : n < 18446744073709551616) : IntKind.u64.wrap n = n := by
  unfold IntKind.wrap
  simp [IntKind.bits, IntKind.signed]
  omega
theorem turn_v (x n : Int) (h0 : 0 ≤ n) (h1 : n ≤ 32) : spec_l01Turn.v x n = some (turnF x n) := by
  rw [spec_l01Turn.v_eq, if_pos h0, u64_small (32 - n) (by omega) (by omega), if_pos (by omega)]
  rfl
theorem block_l3 (v : List Int) (hv : v.length = 8) : ∀ (k i : Nat) (h : List Int), 8 - i = k → i ≤ 8 → h.length = 8 → ∃ r, spec_l01Block.lv3 h v i = some r ∧ r.length = 8
  | 0, i, h, hk, hi, hh => by
    rw [spec_l01Block.lv3_eq, if_neg (by omega)]
    exact ⟨h, rfl, hh⟩
  | k + 1, i, h, hk, hi, hh => by
    obtain ⟨r, e, hr⟩ := block_l3 v hv k (i + 1) (h.set (i : Int).toNat (((rd h i) + (rd v i)) % 4294967296)) (by omega) (by omega) (by rw [List.length_set]; exact hh)
    have w : wrap64 ((i : Int) + 1) = ((i + 1 : Nat) : Int) := by rw [wrap_id (by omega) (by omega)]; omega
    rw [spec_l01Block.lv3_eq, w, e]
    clear w
    rw [if_pos (by omega), if_pos (by omega), if_pos (by omega), if_pos (by omega)]
    exact ⟨r, rfl, hr⟩
theorem block_l2 (h ks ws : List Int) (hh : h.length = 8) (hk : ks.length = 64) (hw : ws.length = 64) : ∀ (k i : Nat) (v : List Int), 64 - i = k → i ≤ 64 → v.length = 8 → ∃ r, spec_l01Block.lv2 h ks ws v i = some r ∧ r.length = 8
  | 0, i, v, hi0, hi, hv => by
    rw [spec_l01Block.lv2_eq, if_neg (by omega)]
    exact block_l3 v hv 8 0 h rfl (by omega) hh
  | k + 1, i, v, hi0, hi, hv => by
    have ih := fun v' => block_l2 h ks ws hh hk hw k (i + 1) v' (by omega) (by omega)
    have w : wrap64 ((i : Int) + 1) = ((i + 1 : Nat) : Int) := by rw [wrap_id (by omega) (by omega)]; omega
    rw [spec_l01Block.lv2_eq, w]
    clear w
    have c1 : (i : Int) < 64 := by omega
    have c2 : (4 : Int) < (v.length : Int) := by omega
    have c3 : (0 : Int) < (v.length : Int) := by omega
    have c4 : (7 : Int) < (v.length : Int) := by omega
    have c5 : (5 : Int) < (v.length : Int) := by omega
    have c6 : (6 : Int) < (v.length : Int) := by omega
    have c7 : (0 : Int) ≤ (i : Int) := by omega
    have c8 : (i : Int) < (ks.length : Int) := by omega
    have c9 : (i : Int) < (ws.length : Int) := by omega
    have d1 : (1 : Int) < (v.length : Int) := by omega
    have d2 : (2 : Int) < (v.length : Int) := by omega
    have d3 : (3 : Int) < (v.length : Int) := by omega
    have t1 : ∀ x, spec_l01Turn.v x 6 = some (turnF x 6) := fun x => turn_v x 6 (by omega) (by omega)
    have t2 : ∀ x, spec_l01Turn.v x 11 = some (turnF x 11) := fun x => turn_v x 11 (by omega) (by omega)
    have t3 : ∀ x, spec_l01Turn.v x 25 = some (turnF x 25) := fun x => turn_v x 25 (by omega) (by omega)
    have t4 : ∀ x, spec_l01Turn.v x 2 = some (turnF x 2) := fun x => turn_v x 2 (by omega) (by omega)
    have t5 : ∀ x, spec_l01Turn.v x 13 = some (turnF x 13) := fun x => turn_v x 13 (by omega) (by omega)
    have t6 : ∀ x, spec_l01Turn.v x 22 = some (turnF x 22) := fun x => turn_v x 22 (by omega) (by omega)
    simp only [if_pos c1, if_pos c2, if_pos c3, if_pos c4, if_pos c5, if_pos c6, if_pos c7, if_pos c8, if_pos c9, if_pos d1, if_pos d2, if_pos d3, t1, t2, t3, t4, t5, t6, Option.bind_some]
    exact ih _ rfl
theorem block_l1 (h ks : List Int) (hh : h.length = 8) (hk : ks.length = 64) : ∀ (k i : Nat) (ws : List Int), 64 - i = k → 16 ≤ i → i ≤ 64 → ws.length = 64 → ∃ r, spec_l01Block.lv1 h ks ws i = some r ∧ r.length = 8
  | 0, i, ws, hi0, h16, hi, hw => by
    rw [spec_l01Block.lv1_eq, if_neg (by omega), Option.bind_some, if_pos (by simp; omega)]
    exact block_l2 h ks ws hh hk hw 64 0 _ rfl (by omega) (by simpa using hh)
  | k + 1, i, ws, hi0, h16, hi, hw => by
    have ih := fun ws' => block_l1 h ks hh hk k (i + 1) ws' (by omega) (by omega) (by omega)
    have c1 : (i : Int) < 64 := by omega
    have c2 : (0 : Int) ≤ (i : Int) - 15 := by omega
    have c3 : (i : Int) - 15 < (ws.length : Int) := by omega
    have c4 : (0 : Int) ≤ (i : Int) - 2 := by omega
    have c5 : (i : Int) - 2 < (ws.length : Int) := by omega
    have c6 : (0 : Int) ≤ (i : Int) - 16 := by omega
    have c7 : (i : Int) - 16 < (ws.length : Int) := by omega
    have c8 : (0 : Int) ≤ (i : Int) - 7 := by omega
    have c9 : (i : Int) - 7 < (ws.length : Int) := by omega
    have d1 : (0 : Int) ≤ (i : Int) := by omega
    have d2 : (i : Int) < (ws.length : Int) := by omega
    have t1 : ∀ x, spec_l01Turn.v x 7 = some (turnF x 7) := fun x => turn_v x 7 (by omega) (by omega)
    have t2 : ∀ x, spec_l01Turn.v x 18 = some (turnF x 18) := fun x => turn_v x 18 (by omega) (by omega)
    have t3 : ∀ x, spec_l01Turn.v x 17 = some (turnF x 17) := fun x => turn_v x 17 (by omega) (by omega)
    have t4 : ∀ x, spec_l01Turn.v x 19 = some (turnF x 19) := fun x => turn_v x 19 (by omega) (by omega)
    have w : wrap64 ((i : Int) + 1) = ((i + 1 : Nat) : Int) := by rw [wrap_id (by omega) (by omega)]; omega
    have w1 : wrap64 ((i : Int) - 15) = (i : Int) - 15 := wrap_id (by omega) (by omega)
    have w2 : wrap64 ((i : Int) - 2) = (i : Int) - 2 := wrap_id (by omega) (by omega)
    have w3 : wrap64 ((i : Int) - 16) = (i : Int) - 16 := wrap_id (by omega) (by omega)
    have w4 : wrap64 ((i : Int) - 7) = (i : Int) - 7 := wrap_id (by omega) (by omega)
    rw [spec_l01Block.lv1_eq]
    simp only [w, w1, w2, w3, w4, if_pos c1, if_pos c2, if_pos c3, if_pos c4, if_pos c5, if_pos c6, if_pos c7, if_pos c8, if_pos c9, if_pos d1, if_pos d2, t1, t2, t3, t4, Option.bind_some]
    clear w w1 w2 w3 w4
    exact ih _ (by rw [List.length_set]; exact hw)
theorem block_l0 (h b ks : List Int) (hh : h.length = 8) (hb : b.length = 64) (hk : ks.length = 64) : ∀ (k i : Nat) (ws : List Int), 16 - i = k → i ≤ 16 → ws.length = 64 → ∃ r, spec_l01Block.lv0 h b ks ws i = some r ∧ r.length = 8
  | 0, i, ws, hi0, hi, hw => by
    rw [spec_l01Block.lv0_eq, if_neg (by omega)]
    exact block_l1 h ks hh hk 48 16 ws rfl (by omega) (by omega) hw
  | k + 1, i, ws, hi0, hi, hw => by
    have ih := fun ws' => block_l0 h b ks hh hb hk k (i + 1) ws' (by omega) (by omega)
    have c1 : (i : Int) < 16 := by omega
    have c2 : (0 : Int) ≤ 4 * (i : Int) := by omega
    have c3 : 4 * (i : Int) < (b.length : Int) := by omega
    have c4 : (0 : Int) ≤ 4 * (i : Int) + 1 := by omega
    have c5 : 4 * (i : Int) + 1 < (b.length : Int) := by omega
    have c6 : (0 : Int) ≤ 4 * (i : Int) + 2 := by omega
    have c7 : 4 * (i : Int) + 2 < (b.length : Int) := by omega
    have c8 : (0 : Int) ≤ 4 * (i : Int) + 3 := by omega
    have c9 : 4 * (i : Int) + 3 < (b.length : Int) := by omega
    have d1 : (0 : Int) ≤ (i : Int) := by omega
    have d2 : (i : Int) < (ws.length : Int) := by omega
    have w : wrap64 ((i : Int) + 1) = ((i + 1 : Nat) : Int) := by rw [wrap_id (by omega) (by omega)]; omega
    have w0 : wrap64 (4 * (i : Int)) = 4 * (i : Int) := wrap_id (by omega) (by omega)
    have w1 : wrap64 (4 * (i : Int) + 1) = 4 * (i : Int) + 1 := wrap_id (by omega) (by omega)
    have w2 : wrap64 (4 * (i : Int) + 2) = 4 * (i : Int) + 2 := wrap_id (by omega) (by omega)
    have w3 : wrap64 (4 * (i : Int) + 3) = 4 * (i : Int) + 3 := wrap_id (by omega) (by omega)
    rw [spec_l01Block.lv0_eq]
    simp only [w, w0, w1, w2, w3, if_pos c1, if_pos c2, if_pos c3, if_pos c4, if_pos c5, if_pos c6, if_pos c7, if_pos c8, if_pos c9, if_pos d1, if_pos d2]
    clear w w0 w1 w2 w3
    exact ih _ (by rw [List.length_set]; exact hw)
theorem block_v (h b ks : List Int) (hh : h.length = 8) (hb : b.length = 64) (hk : ks.length = 64) : ∃ r, spec_l01Block.v h b ks = some r ∧ r.length = 8 := by
  rw [spec_l01Block.v_eq, if_pos ⟨hh, hb, hk⟩, if_pos (by omega)]
  exact block_l0 h b ks hh hb hk 16 0 _ rfl (by omega) (by simp)
theorem hash_l3 (h : List Int) (hh : h.length = 8) : ∀ (k i : Nat) (out : List Int), 8 - i = k → i ≤ 8 → out.length = 4 * i → ∃ t, spec_l01Hash.lv3 h out i = some t ∧ t.size = 32
  | 0, i, out, hi0, hi, ho => by
    rw [spec_l01Hash.lv3_eq, if_neg (by omega)]
    exact ⟨_, rfl, by rw [strOf_size]; omega⟩
  | k + 1, i, out, hi0, hi, ho => by
    have ih := fun out' => hash_l3 h hh k (i + 1) out' (by omega) (by omega)
    have w : wrap64 ((i : Int) + 1) = ((i + 1 : Nat) : Int) := by rw [wrap_id (by omega) (by omega)]; omega
    rw [spec_l01Hash.lv3_eq, w]
    clear w
    rw [if_pos (by omega), if_pos (by omega), if_pos (by omega), Option.bind_some, if_pos (by simp; omega)]
    exact ih _ (by simp; omega)
theorem hash_l2 (all ks : List Int) (hk : ks.length = 64) (n : Nat) (ha : all.length = 64 * n) (hn : n ≤ 1000000) : ∀ (k i : Nat) (h : List Int), n - i = k → i ≤ n → h.length = 8 → ∃ t, spec_l01Hash.lv2 h all ks ((64 * i : Nat) : Int) = some t ∧ t.size = 32
  | 0, i, h, hi0, hi, hh => by
    rw [spec_l01Hash.lv2_eq, if_neg (by omega)]
    exact hash_l3 h hh 8 0 [] rfl (by omega) rfl
  | k + 1, i, h, hi0, hi, hh => by
    have ih := fun h' => hash_l2 all ks hk n ha hn k (i + 1) h' (by omega) (by omega)
    obtain ⟨r, e, hr⟩ := block_v h ((all.take (64 * (i + 1))).drop (64 * i)) ks hh (by rw [List.length_drop, List.length_take]; omega) hk
    have w : wrap64 (((64 * i : Nat) : Int) + 64) = ((64 * (i + 1) : Nat) : Int) := by rw [wrap_id (by omega) (by omega)]; omega
    rw [spec_l01Hash.lv2_eq, w]
    clear w
    simp only [Int.toNat_natCast]
    rw [if_pos (by omega), if_pos (by omega), if_pos (by omega), if_pos (by omega), e, Option.bind_some]
    exact ih _ hr
theorem hash_l1 (x h : List Int) (hh : h.length = 8) : ∀ (k : Nat) (all : List Int), k ≤ 8 → all.length + k ≤ 60000000 → (all.length + k) % 64 = 0 → ∃ t, spec_l01Hash.lv1 x h all ((k : Int) - 1) = some t ∧ t.size = 32
  | 0, all, hk, ha, hm => by
    rw [spec_l01Hash.lv1_eq, if_neg (by omega), spec_l01Consts.v_eq, Option.bind_some]
    exact hash_l2 all _ rfl (all.length / 64) (by omega) (by omega) (all.length / 64) 0 h rfl (by omega) hh
  | k + 1, all, hk, ha, hm => by
    have ih := fun a => hash_l1 x h hh k (all ++ [a]) (by omega) (by simp; omega) (by simp; omega)
    have e : (((k + 1 : Nat) : Int) - 1) = (k : Int) := by omega
    have c1 : (k : Int) ≥ 0 := by omega
    have c2 : all.length < 140737488355328 := by omega
    have w : wrap64 ((k : Int) - 1) = (k : Int) - 1 := wrap_id (by omega) (by omega)
    have w1 : IntKind.u64.wrap (wrap64 (8 * (k : Int))) = 8 * (k : Int) := by
      rw [show wrap64 (8 * (k : Int)) = 8 * (k : Int) from wrap_id (by omega) (by omega), u64_small _ (by omega) (by omega)]
    have c3 : (0 : Int) ≤ 8 * (k : Int) := by clear w w1; omega
    rw [e, spec_l01Hash.lv1_eq, w, w1]
    clear w w1
    rw [if_pos c1, if_pos c3, if_pos c2]
    exact ih _
theorem hash_l0 (x h : List Int) (hh : h.length = 8) : ∀ (k : Nat) (all : List Int), (all.length + k) % 64 = 56 → k ≤ 64 → all.length + k ≤ 50000000 → ∃ t, spec_l01Hash.lv0 x h all = some t ∧ t.size = 32
  | 0, all, hm, hk, ha => by
    rw [spec_l01Hash.lv0_eq, if_pos (by omega)]
    exact hash_l1 x h hh 8 all (by omega) (by omega) (by omega)
  | k + 1, all, hm, hk, ha => by
    rw [spec_l01Hash.lv0_eq]
    by_cases c : ((all.length : Int) % 64) = 56
    · rw [if_pos c]
      exact hash_l1 x h hh 8 all (by omega) (by omega) (by omega)
    · rw [if_neg c, if_pos (by omega)]
      exact hash_l0 x h hh k (all ++ [0]) (by simp; omega) (by omega) (by simp; omega)
theorem hash_v (x : List Int) (hx : x.length ≤ 40000000) : ∃ t, spec_l01Hash.v x = some t ∧ t.size = 32 := by
  rw [spec_l01Hash.v_eq, Option.bind_some, if_pos (by simp; omega), Option.bind_some, if_pos (by simp; omega)]
  refine hash_l0 x _ rfl ((56 + 64 - (x.length + 1) % 64) % 64) _ ?_ (by omega) ?_
  · simp; omega
  · simp; omega
def names3 : List ByteArray := [⟨#[97]⟩, ⟨#[98]⟩, ⟨#[108, 111, 99, 107]⟩]
theorem names3_size : ∀ t ∈ names3, t.size ≤ 4 := by
  intro t h
  unfold names3 at h
  simp only [List.mem_cons, List.not_mem_nil, or_false] at h
  rcases h with rfl | rfl | rfl <;> decide
theorem src_request (code : List Int) (hc : ∀ y ∈ code, (Lit.int .u8 y).wf = true) (m a s : Int) (h : Src m a s) (hm : m ≤ 700000000000) :
    ∃ c st k ls nm a' s', spec_l00Src_request.v code a s = some (c, st, k, ls, nm, a', s') ∧ (0 ≤ c ∧ c ≤ 2) ∧ (1 ≤ st ∧ st ≤ 5) ∧ (1 ≤ k ∧ k ≤ 4) ∧ ((k = 1 ∨ k = 3) ∧ 1 ≤ ls ∧ ls ≤ 30 ∨ ¬ (k = 1 ∨ k = 3) ∧ ls = 0) ∧ nm ∈ names3 ∧ Src (m + 15) a' s' := by
  obtain ⟨c, a1, s1, e1, c0, c1, i1⟩ := src_next code hc m a s 3 h (by omega) (by omega)
  obtain ⟨st, a2, s2, e2, st0, st1, i2⟩ := src_next code hc _ a1 s1 5 i1 (by omega) (by omega)
  obtain ⟨k, a3, s3, e3, k0, k1, i3⟩ := src_next code hc _ a2 s2 4 i2 (by omega) (by omega)
  obtain ⟨nm, a4, s4, e4, hn, i4⟩ := src_pick code hc _ a3 s3 names3 i3 (by omega) (by decide)
  obtain ⟨ls, a5, s5, e5, l0, l1, i5⟩ := src_next code hc _ a4 s4 30 i4 (by omega) (by omega)
  have e4' : spec_l00Src_pick.v code a3 s3 (([(⟨#[97]⟩ : ByteArray), (⟨#[98]⟩ : ByteArray), (⟨#[108, 111, 99, 107]⟩ : ByteArray)] : List ByteArray)) = some (nm, a4, s4) := e4
  have w1 : wrap64 (1 + st) = 1 + st := wrap_id (by omega) (by omega)
  have w2 : wrap64 (1 + k) = 1 + k := wrap_id (by omega) (by omega)
  have w3 : wrap64 (1 + ls) = 1 + ls := wrap_id (by omega) (by omega)
  rw [spec_l00Src_request.v_eq]
  simp only [e1, e2, e3, e4', e5, Option.bind_some, w1, w2, w3]
  clear w1 w2 w3
  by_cases q1 : 1 + k = 1
  · rw [if_pos q1]
    exact ⟨_, _, _, _, _, _, _, rfl, by omega, by omega, by omega, .inl ⟨.inl q1, by omega, by omega⟩, hn, i5.mono (by omega)⟩
  · rw [if_neg q1]
    by_cases q3 : 1 + k = 3
    · rw [if_pos q3]
      exact ⟨_, _, _, _, _, _, _, rfl, by omega, by omega, by omega, .inl ⟨.inr q3, by omega, by omega⟩, hn, i5.mono (by omega)⟩
    · rw [if_neg q3]
      exact ⟨_, _, _, _, _, _, _, rfl, by omega, by omega, by omega, .inr ⟨by omega, rfl⟩, hn, i4.mono (by omega)⟩
theorem src_batch_l (code : List Int) (hc : ∀ y ∈ code, (Lit.int .u8 y).wf = true) (n : Bool) (c st k ls : Int) (nm : ByteArray) : ∀ (j i : Nat) (m a s : Int) (rs : List S70), 4 - i = j → i ≤ 4 → Src m a s → m + 6 * j ≤ 800000000000 → rs.length ≤ i → (∀ r ∈ rs, r.f2.size = 8) →
    ∃ rs' a' s', spec_l00Src_batch.lv0 i code a s n c st k ls nm rs = some (n, c, st, k, ls, nm, rs', a', s') ∧ rs'.length ≤ 4 ∧ (∀ r ∈ rs', r.f2.size = 8) ∧ Src (m + 6 * j) a' s'
  | 0, i, m, a, s, rs, hj, hi, h, hm, hr, h8 => by
    rw [spec_l00Src_batch.lv0_eq, if_neg (by omega)]
    exact ⟨_, _, _, rfl, by omega, h8, h.mono (by omega)⟩
  | j + 1, i, m, a, s, rs, hj, hi, h, hm, hr, h8 => by
    obtain ⟨b, a1, s1, e1, i1⟩ := src_chance code hc m a s 4 h (by omega) (by omega)
    obtain ⟨v, a2, s2, e2, v0, v1, i2⟩ := src_next code hc _ a1 s1 100 i1 (by omega) (by omega)
    obtain ⟨t, e3, t32⟩ := hash_v [(i : Int) % 256] (by simp)
    have w : wrap64 ((i : Int) + 1) = ((i + 1 : Nat) : Int) := by rw [wrap_id (by omega) (by omega)]; omega
    have t8 : (t.extract 0 8).size = 8 := by rw [ByteArray.size_extract]; omega
    rw [spec_l00Src_batch.lv0_eq, w]
    clear w
    rw [if_pos (by omega), e1, Option.bind_some]
    cases b
    · have ih := src_batch_l code hc n c st k ls nm j (i + 1) (m + 3 + 3) a2 s2 (rs ++ [⟨i, v, t.extract 0 8⟩]) (by omega) (by omega) i2 (by omega) (by simp; omega) (by
        intro r hr2
        rcases List.mem_append.1 hr2 with hr2 | hr2
        · exact h8 r hr2
        · rw [List.mem_singleton.1 hr2]; exact t8)
      obtain ⟨rs', a', s', e, p1, p2, p3⟩ := ih
      rw [if_neg (by simp)]
      simp only
      rw [e2, Option.bind_some, e3, Option.bind_some, if_pos (by omega), if_pos (by omega), if_pos (by omega)]
      exact ⟨rs', a', s', e, p1, p2, p3.mono (by omega)⟩
    · obtain ⟨rs', a', s', e, p1, p2, p3⟩ := src_batch_l code hc n c st k ls nm j (i + 1) (m + 3) a1 s1 rs (by omega) (by omega) i1 (by omega) (by omega) h8
      rw [if_pos rfl]
      exact ⟨rs', a', s', e, p1, p2, p3.mono (by omega)⟩
theorem src_batch (code : List Int) (hc : ∀ y ∈ code, (Lit.int .u8 y).wf = true) (m a s : Int) (h : Src m a s) (hm : m ≤ 600000000000) :
    ∃ n c st k ls nm rs a' s', spec_l00Src_batch.v code a s = some (n, c, st, k, ls, nm, rs, a', s') ∧ nm.size ≤ 4 ∧ rs.length ≤ 4 ∧ (∀ r ∈ rs, r.f2.size = 8) ∧ Src (m + 50) a' s' := by
  obtain ⟨b, a1, s1, e1, i1⟩ := src_chance code hc m a s 6 h (by omega) (by omega)
  rw [spec_l00Src_batch.v_eq, e1, Option.bind_some]
  cases b
  · obtain ⟨c, st, k, ls, nm, a2, s2, e2, _, _, _, _, hn, i2⟩ := src_request code hc _ a1 s1 i1 (by omega)
    obtain ⟨rs, a3, s3, e3, p1, p2, p3⟩ := src_batch_l code hc false c st k ls nm 4 0 _ a2 s2 [] rfl (by omega) i2 (by omega) (by simp) (by simp)
    rw [if_neg (by simp)]
    simp only
    rw [e2, Option.bind_some]
    exact ⟨false, c, st, k, ls, nm, rs, a3, s3, e3, names3_size nm hn, p1, p2, p3.mono (by omega)⟩
  · rw [if_pos rfl]
    exact ⟨_, _, _, _, _, _, _, _, _, rfl, by decide, by simp, by simp, i1.mono (by omega)⟩
theorem reqBytes_v (c st k ls : Int) (nm : ByteArray) (hn : nm.size ≤ 1000000) : spec_l02Request.v c st k ls nm = some ([c % 256] ++ beL st 2 ++ [k % 256] ++ beL ls 2 ++ [(nm.size : Int) % 256] ++ bytesOf nm) := by
  have n1 : ∀ x, spec_l02Number.v x 2 = some (beL x 2) := fun x => spec_number_v x 2 (by omega)
  rw [spec_l02Request.v_eq]
  simp only [Option.bind_some, n1, List.length_append, List.length_cons, List.length_nil, beL_len]
  rw [if_pos (by omega), if_pos (by omega), if_pos (by omega), if_pos (by omega), if_pos (by omega)]
theorem batchBytes_l (n : Bool) (c st k ls : Int) (nm : ByteArray) (rs : List S70) (hn : nm.size ≤ 1000) (hr : rs.length ≤ 100) (h8 : ∀ r ∈ rs, r.f2.size = 8) : ∀ (j i : Nat) (out : List Int), rs.length - i = j → i ≤ rs.length → out.length = 1 + 13 * i →
    ∃ l, spec_l02Batch.lv0 out i n c st k ls nm rs = some l ∧ l.length = 8 + 13 * rs.length + nm.size
  | 0, i, out, hj, hi, ho => by
    rw [spec_l02Batch.lv0_eq, if_neg (by omega), reqBytes_v _ _ _ _ _ (by omega), Option.bind_some, if_pos (by simp [beL_len, bytesOf_length]; omega)]
    exact ⟨_, rfl, by simp [beL_len, bytesOf_length]; omega⟩
  | j + 1, i, out, hj, hi, ho => by
    have hm : (rd_T70 rs i).f2.size = 8 := by
      unfold rd_T70
      rw [Int.toNat_natCast, List.getD_eq_getElem?_getD, List.getElem?_eq_getElem (by omega)]
      exact h8 _ (List.getElem_mem _)
    have ih := fun o => batchBytes_l n c st k ls nm rs hn hr h8 j (i + 1) o (by omega) (by omega)
    have w : wrap64 ((i : Int) + 1) = ((i + 1 : Nat) : Int) := by rw [wrap_id (by omega) (by omega)]; omega
    have n4 : ∀ x, spec_l02Number.v x 4 = some (beL x 4) := fun x => spec_number_v x 4 (by omega)
    rw [spec_l02Batch.lv0_eq, w]
    clear w
    rw [if_pos (by omega), if_pos (by omega), if_pos (by omega), Option.bind_some, n4, Option.bind_some, if_pos (by simp [beL_len]; omega), Option.bind_some, if_pos (by simp [beL_len]; omega)]
    exact ih _ (by simp [beL_len, bytesOf_length]; omega)
theorem batchBytes (n : Bool) (c st k ls : Int) (nm : ByteArray) (rs : List S70) (hn : nm.size ≤ 1000) (hr : rs.length ≤ 100) (h8 : ∀ r ∈ rs, r.f2.size = 8) :
    ∃ l, spec_l02Batch.v n c st k ls nm rs = some l ∧ 1 ≤ l.length ∧ l.length ≤ 8 + 13 * rs.length + nm.size := by
  rw [spec_l02Batch.v_eq]
  cases n
  · obtain ⟨l, e, h⟩ := batchBytes_l false c st k ls nm rs hn hr h8 rs.length 0 [(wrap64 (1 + (rs.length : Int))) % 256] rfl (by omega) rfl
    rw [if_neg (by simp)]
    exact ⟨l, e, by omega, by omega⟩
  · rw [if_pos rfl]
    exact ⟨_, rfl, by simp, by simp; omega⟩
theorem oneTwo : ∃ l, spec_l02List.v (([(⟨#[111, 110, 101]⟩ : ByteArray), (⟨#[116, 119, 111]⟩ : ByteArray)] : List ByteArray)) = some l ∧ l.length ≤ 20000 := by
  refine ⟨_, spec_l02List_v _ (by simp) ?_ ?_, ?_⟩
  · intro t h
    simp only [List.mem_cons, List.not_mem_nil, or_false] at h
    rcases h with rfl | rfl <;> decide
  · decide
  · decide
theorem src_message (code : List Int) (hc : ∀ y ∈ code, (Lit.int .u8 y).wf = true) (m a s : Int) (h : Src m a s) (hm : m ≤ 500000000000) :
    ∃ k v sq f d b mac a' s', spec_l00Src_message.v code a s = some (k, v, sq, f, d, b, mac, a', s') ∧ msgB k v sq f d b mac = true ∧ Src (m + 100) a' s' := by
  obtain ⟨k, a1, s1, e1, k0, k1, i1⟩ := src_next code hc m a s 5 h (by omega) (by omega)
  obtain ⟨v, a2, s2, e2, v0, v1, i2⟩ := src_next code hc _ a1 s1 4 i1 (by omega) (by omega)
  obtain ⟨f, a3, s3, e3, f0, f1, i3⟩ := src_next code hc _ a2 s2 4 i2 (by omega) (by omega)
  obtain ⟨q, a4, s4, e4, q0, q1, i4⟩ := src_next code hc _ a3 s3 9 i3 (by omega) (by omega)
  obtain ⟨t, e5, t32⟩ := hash_v [q % 256] (by simp)
  obtain ⟨p, a6, s6, e6, p0, p1, i6⟩ := src_next code hc _ a4 s4 4 i4 (by omega) (by omega)
  obtain ⟨z, a7, s7, e7, z0, z1, i7⟩ := src_next code hc _ a6 s6 4 i6 (by omega) (by omega)
  obtain ⟨u, e8, u32⟩ := hash_v [z % 256] (by simp)
  obtain ⟨n, c, st, kk, ls, nm, rs, a9, s9, e9, hn, hr, h8, i9⟩ := src_batch code hc _ a7 s7 i7 (by omega)
  obtain ⟨bl, e10, b1, b2⟩ := batchBytes n c st kk ls nm rs (by omega) (by omega) h8
  obtain ⟨ol, e11, o1⟩ := oneTwo
  have t8 : (t.extract 0 8).size = 8 := by rw [ByteArray.size_extract]; omega
  have w1 : wrap64 (1 + k) = 1 + k := wrap_id (by omega) (by omega)
  have w2 : wrap64 (1 + p) = 1 + p := wrap_id (by omega) (by omega)
  have c1 : (0 : Int) ≤ 8 := by omega
  have c2 : (8 : Int) ≤ (t.size : Int) := by omega
  rw [spec_l00Src_message.v_eq]
  simp only [e1, e2, e3, e4, e5, Option.bind_some, w1, if_pos c1, if_pos c2]
  clear w1
  by_cases hk : 1 + k ≤ 3
  · rw [if_pos hk]
    simp only [e6, e7, e8, Option.bind_some, w2]
    clear w2
    rw [spec_l00Src_message.jv0_eq]
    have hk4 : ¬ (1 + k ≥ 4) := by omega
    by_cases hk1 : 1 + k = 1
    · rw [if_pos hk1]
      simp only [e9, e10, Option.bind_some]
      rw [if_neg hk4]
      refine ⟨_, _, _, _, _, _, _, _, _, rfl, ?_, i9.mono (by omega)⟩
      have hz : (strOfNums bl).size ≠ 0 := by rw [strOf_size]; omega
      unfold msgB inB
      rw [if_pos hk]
      simp only [Bool.and_eq_true, decide_eq_true_eq, beq_iff_eq]
      refine ⟨⟨⟨⟨⟨?_, ?_⟩, ?_⟩, t8⟩, ?_⟩, ⟨⟨?_, u32⟩, ?_⟩⟩
      · omega
      · omega
      · omega
      · rw [strOf_size]; omega
      · omega
      · rw [decide_eq_true hz, decide_eq_true hk1]
    · rw [if_neg hk1, if_neg hk4]
      refine ⟨_, _, _, _, _, _, _, _, _, rfl, ?_, i7.mono (by omega)⟩
      unfold msgB inB
      rw [if_pos hk]
      simp only [Bool.and_eq_true, decide_eq_true_eq, beq_iff_eq]
      refine ⟨⟨⟨⟨⟨?_, ?_⟩, ?_⟩, t8⟩, ?_⟩, ⟨⟨?_, u32⟩, ?_⟩⟩
      · omega
      · omega
      · omega
      · decide
      · omega
      · rw [decide_eq_false hk1]; decide
  · rw [if_neg hk, spec_l00Src_message.jv0_eq]
    clear w2
    have hk4 : 1 + k ≥ 4 := by omega
    have hk1 : ¬ (1 + k = 1) := by omega
    rw [if_neg hk1, if_pos hk4, e11, Option.bind_some]
    refine ⟨_, _, _, _, _, _, _, _, _, rfl, ?_, i4.mono (by omega)⟩
    unfold msgB inB
    rw [if_neg hk]
    simp only [Bool.and_eq_true, decide_eq_true_eq, beq_iff_eq]
    refine ⟨⟨⟨⟨⟨?_, ?_⟩, ?_⟩, t8⟩, ?_⟩, ?_, ?_⟩
    · omega
    · omega
    · omega
    · rw [strOf_size]; omega
    · trivial
    · rfl
theorem spec_MessageOf_v (code : List Int) (hc : ∀ y ∈ code, (Lit.int .u8 y).wf = true) : ∃ k v sq f d b mac, spec_MessageOf.v code = some (k, v, sq, f, d, b, mac) ∧ msgB k v sq f d b mac = true := by
  obtain ⟨s, e, i⟩ := src_start code
  obtain ⟨k, v, sq, f, d, b, mac, a', s', e2, h, _⟩ := src_message code hc 0 0 s i (by omega)
  rw [spec_MessageOf.v_eq, e, Option.bind_some]
  simp only
  rw [e2, Option.bind_some]
  exact ⟨k, v, sq, f, d, b, mac, rfl, h⟩
theorem FnMessages_jv1 (y1 : List Int) (h : y1.length ≤ 1048576) : laws_FnMessages.jv1 y1 false = some true := by
  obtain ⟨r, e1, e2⟩ := readMessage_eq y1 h
  rw [laws_FnMessages.jv1_eq, if_neg (by simp), e2, Option.bind_some, e1, Option.bind_some, if_pos rfl]
  rw [impl_ReadMessage.v_eq] at e2
  by_cases h1 : (y1.length : Int) > 65536
  · rw [if_pos h1] at e2
    injection e2 with e2
    subst e2
    rfl
  · rw [if_neg h1, impl_readMessage_v, Option.bind_some] at e2
    by_cases hok : mOK (strOfNums y1) = true
    · rw [if_pos hok] at e2
      have e3 := Option.some.inj e2
      subst e3
      have hB : msgB (bt (strOfNums y1) 0) (bt (strOfNums y1) 1) (bt (strOfNums y1) 2) (bt (strOfNums y1) 3) ((strOfNums y1).extract 5 (5 + mD (strOfNums y1))) ((strOfNums y1).extract (7 + mD (strOfNums y1)) (7 + mD (strOfNums y1) + mB (strOfNums y1))) ((strOfNums y1).extract (7 + mD (strOfNums y1) + mB (strOfNums y1)) (strOfNums y1).size) = true := by
        unfold mOK at hok
        rw [Bool.and_eq_true] at hok
        exact hok.2
      have hw := msg_written _ hok
      unfold mYes
      simp only
      rw [if_pos trivial, impl_MessageBytes_v _ _ _ _ _ _ _ hB, Option.bind_some, if_pos rfl, hw, str_bytes]
      simp
    · rw [if_neg hok] at e2
      have e3 := Option.some.inj e2
      subst e3
      rfl
theorem FnMessages_pure (y0 : List Int) (y1 : List Int) : (y0.length ≤ 9223372036854775807 ∧ ∀ y ∈ y0, (Lit.int .u8 y).wf = true) → (y1.length ≤ 9223372036854775807 ∧ ∀ y ∈ y1, (Lit.int .u8 y).wf = true) → laws_FnMessages.v y0 y1 = some true := by
  intro g0 g1
  rw [laws_FnMessages.v_eq]
  by_cases h0 : (y0.length : Int) > 1048576
  · rw [if_pos h0, laws_FnMessages.jv0_eq, if_pos rfl]
  · rw [if_neg h0]
    by_cases h1 : (y1.length : Int) > 1048576
    · rw [laws_FnMessages.jv0_eq, if_pos (decide_eq_true h1)]
    · obtain ⟨k, v, s, f, d, b, m, e, hB⟩ := spec_MessageOf_v y0 g0.2
      obtain ⟨_, _, _, _, _, _, _, _, q9, qa, qb⟩ := msgB_sizes hB
      have hr : impl_ReadMessage.v (msgL k v s f d b m) = some (k, v, s, f, d, b, m, 0) := by
        rw [impl_ReadMessage.v_eq, if_neg (by rw [msgL_len]; omega), msg_read k v s f d b m hB, Option.bind_some]
        rfl
      rw [laws_FnMessages.jv0_eq, if_neg (by simpa using h1), e, Option.bind_some]
      simp only [impl_MessageBytes_v k v s f d b m hB, spec_MessageBytes_v k v s f d b m hB, hr, Option.bind_some, if_true, impl_MessageOK_v, hB]
      rw [if_neg (by simp)]
      exact FnMessages_jv1 y1 (by omega)
end Go.Proofs.Ytdpdbegglkdgnaa.A
end
