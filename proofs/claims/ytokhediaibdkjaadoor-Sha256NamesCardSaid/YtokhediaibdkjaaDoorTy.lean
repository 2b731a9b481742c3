/- Facts on the program's types, by program (gen_types.py). -/
import Derived.Test.YtokhediaibdkjaaDoorE3
import Derived.Test.YtokhediaibdkjaaDoorProg
namespace Go.Proofs.YtokhediaibdkjaaDoor
open Go.Pm
set_option maxRecDepth 100000
theorem sc_2 : scT Tryd.prog 2 = true := by kernel_rfl
theorem sz_2 : szT Tryd.prog 2 = some 1 := by kernel_rfl
theorem zr_2 : zeroCs Tryd.prog 2 = some [.int .i64 0] := by kernel_rfl
theorem it_2 : intT Tryd.prog 2 = some .i64 := by kernel_rfl
theorem sc_3 : scT Tryd.prog 3 = true := by kernel_rfl
theorem sz_3 : szT Tryd.prog 3 = some 1 := by kernel_rfl
theorem zr_3 : zeroCs Tryd.prog 3 = some [.int .i64 0] := by kernel_rfl
theorem it_3 : intT Tryd.prog 3 = some .i64 := by kernel_rfl
theorem sc_4 : scT Tryd.prog 4 = true := by kernel_rfl
theorem sz_4 : szT Tryd.prog 4 = some 1 := by kernel_rfl
theorem zr_4 : zeroCs Tryd.prog 4 = some [.bool false] := by kernel_rfl
theorem sc_5 : scT Tryd.prog 5 = true := by kernel_rfl
theorem sz_5 : szT Tryd.prog 5 = some 1 := by kernel_rfl
theorem zr_5 : zeroCs Tryd.prog 5 = some [.int .u8 0] := by kernel_rfl
theorem it_5 : intT Tryd.prog 5 = some .u8 := by kernel_rfl
theorem sc_9 : scT Tryd.prog 9 = true := by kernel_rfl
theorem sz_9 : szT Tryd.prog 9 = some 1 := by kernel_rfl
theorem zr_9 : zeroCs Tryd.prog 9 = some [.string .empty] := by kernel_rfl
theorem str_9 : strT Tryd.prog 9 = true := by kernel_rfl
theorem sc_21 : scT Tryd.prog 21 = true := by kernel_rfl
theorem sz_21 : szT Tryd.prog 21 = some 1 := by kernel_rfl
theorem zr_21 : zeroCs Tryd.prog 21 = some [.int .i32 0] := by kernel_rfl
theorem it_21 : intT Tryd.prog 21 = some .i32 := by kernel_rfl
theorem sc_22 : scT Tryd.prog 22 = true := by kernel_rfl
theorem sz_22 : szT Tryd.prog 22 = some 1 := by kernel_rfl
theorem zr_22 : zeroCs Tryd.prog 22 = some [.slice none 0 0] := by kernel_rfl
theorem el_22 : elemSz Tryd.prog 22 = some 1 := by kernel_rfl
theorem sc_23 : scT Tryd.prog 23 = true := by kernel_rfl
theorem sz_23 : szT Tryd.prog 23 = some 1 := by kernel_rfl
theorem zr_23 : zeroCs Tryd.prog 23 = some [.slice none 0 0] := by kernel_rfl
theorem el_23 : elemSz Tryd.prog 23 = some 1 := by kernel_rfl
theorem sc_24 : scT Tryd.prog 24 = true := by kernel_rfl
theorem sz_24 : szT Tryd.prog 24 = some 1 := by kernel_rfl
theorem zr_24 : zeroCs Tryd.prog 24 = some [.int .i64 0] := by kernel_rfl
theorem it_24 : intT Tryd.prog 24 = some .i64 := by kernel_rfl
theorem sc_34 : scT Tryd.prog 34 = true := by kernel_rfl
theorem sz_34 : szT Tryd.prog 34 = some 1 := by kernel_rfl
theorem zr_34 : zeroCs Tryd.prog 34 = some [.int .u64 0] := by kernel_rfl
theorem it_34 : intT Tryd.prog 34 = some .u64 := by kernel_rfl
theorem sc_38 : scT Tryd.prog 38 = true := by kernel_rfl
theorem sz_38 : szT Tryd.prog 38 = some 1 := by kernel_rfl
theorem zr_38 : zeroCs Tryd.prog 38 = some [.int .u32 0] := by kernel_rfl
theorem it_38 : intT Tryd.prog 38 = some .u32 := by kernel_rfl
theorem sc_86 : scT Tryd.prog 86 = true := by kernel_rfl
theorem sz_86 : szT Tryd.prog 86 = some 1 := by kernel_rfl
theorem zr_86 : zeroCs Tryd.prog 86 = some [.int .u16 0] := by kernel_rfl
theorem it_86 : intT Tryd.prog 86 = some .u16 := by kernel_rfl
theorem sc_99 : scT Tryd.prog 99 = true := by kernel_rfl
theorem sz_99 : szT Tryd.prog 99 = some 1 := by kernel_rfl
theorem zr_99 : zeroCs Tryd.prog 99 = some [.int .u64 0] := by kernel_rfl
theorem it_99 : intT Tryd.prog 99 = some .u64 := by kernel_rfl
theorem sc_29 : scT Tryd.prog 29 = true := by kernel_rfl
theorem sz_29 : szT Tryd.prog 29 = some 1 := by kernel_rfl
theorem zr_29 : zeroCs Tryd.prog 29 = some [.pointer none] := by kernel_rfl
theorem sc_48 : scT Tryd.prog 48 = true := by kernel_rfl
theorem sz_48 : szT Tryd.prog 48 = some 1 := by kernel_rfl
theorem zr_48 : zeroCs Tryd.prog 48 = some [.pointer none] := by kernel_rfl
theorem sc_51 : scT Tryd.prog 51 = true := by kernel_rfl
theorem sz_51 : szT Tryd.prog 51 = some 1 := by kernel_rfl
theorem zr_51 : zeroCs Tryd.prog 51 = some [.pointer none] := by kernel_rfl
theorem sc_54 : scT Tryd.prog 54 = true := by kernel_rfl
theorem sz_54 : szT Tryd.prog 54 = some 1 := by kernel_rfl
theorem zr_54 : zeroCs Tryd.prog 54 = some [.pointer none] := by kernel_rfl
theorem sc_55 : scT Tryd.prog 55 = true := by kernel_rfl
theorem sz_55 : szT Tryd.prog 55 = some 1 := by kernel_rfl
theorem zr_55 : zeroCs Tryd.prog 55 = some [.pointer none] := by kernel_rfl
theorem ag_39 : agT Tryd.prog 39 = some 8 := by kernel_rfl
theorem sz_39 : szT Tryd.prog 39 = some 8 := by kernel_rfl
theorem zr_39 : zeroCs Tryd.prog 39 = some [.int .u32 0, .int .u32 0, .int .u32 0, .int .u32 0, .int .u32 0, .int .u32 0, .int .u32 0, .int .u32 0] := by kernel_rfl
theorem ar_39 : arrOf Tryd.prog 39 = some (8, 1) := by kernel_rfl
theorem ag_41 : agT Tryd.prog 41 = some 11 := by kernel_rfl
theorem sz_41 : szT Tryd.prog 41 = some 11 := by kernel_rfl
theorem zr_41 : zeroCs Tryd.prog 41 = some [.int .i64 0, .int .u32 0, .int .u32 0, .int .u32 0, .int .u32 0, .int .u32 0, .int .u32 0, .int .u32 0, .int .u32 0, .slice none 0 0, .int .u64 0] := by kernel_rfl
theorem fo_41_0 : fieldOff Tryd.prog 41 0 = some 0 := by kernel_rfl
theorem fc_41_0 : fieldCell Tryd.prog 41 0 = some 0 := by kernel_rfl
theorem fo_41_1 : fieldOff Tryd.prog 41 1 = some 1 := by kernel_rfl
theorem fa_41_1 : fieldAgg Tryd.prog 41 1 = some (1, 8) := by kernel_rfl
theorem fo_41_2 : fieldOff Tryd.prog 41 2 = some 9 := by kernel_rfl
theorem fc_41_2 : fieldCell Tryd.prog 41 2 = some 9 := by kernel_rfl
theorem fo_41_3 : fieldOff Tryd.prog 41 3 = some 10 := by kernel_rfl
theorem fc_41_3 : fieldCell Tryd.prog 41 3 = some 10 := by kernel_rfl
theorem ag_59 : agT Tryd.prog 59 = some 5 := by kernel_rfl
theorem sz_59 : szT Tryd.prog 59 = some 5 := by kernel_rfl
theorem zr_59 : zeroCs Tryd.prog 59 = some [.int .i64 0, .int .i64 0, .int .i64 0, .int .i64 0, .slice none 0 0] := by kernel_rfl
theorem fo_59_0 : fieldOff Tryd.prog 59 0 = some 0 := by kernel_rfl
theorem fc_59_0 : fieldCell Tryd.prog 59 0 = some 0 := by kernel_rfl
theorem fo_59_1 : fieldOff Tryd.prog 59 1 = some 1 := by kernel_rfl
theorem fc_59_1 : fieldCell Tryd.prog 59 1 = some 1 := by kernel_rfl
theorem fo_59_2 : fieldOff Tryd.prog 59 2 = some 2 := by kernel_rfl
theorem fc_59_2 : fieldCell Tryd.prog 59 2 = some 2 := by kernel_rfl
theorem fo_59_3 : fieldOff Tryd.prog 59 3 = some 3 := by kernel_rfl
theorem fc_59_3 : fieldCell Tryd.prog 59 3 = some 3 := by kernel_rfl
theorem fo_59_4 : fieldOff Tryd.prog 59 4 = some 4 := by kernel_rfl
theorem fc_59_4 : fieldCell Tryd.prog 59 4 = some 4 := by kernel_rfl
theorem ag_71 : agT Tryd.prog 71 = some 6 := by kernel_rfl
theorem sz_71 : szT Tryd.prog 71 = some 6 := by kernel_rfl
theorem zr_71 : zeroCs Tryd.prog 71 = some [.slice none 0 0, .slice none 0 0, .int .i64 0, .bool false, .int .i64 0, .slice none 0 0] := by kernel_rfl
theorem fo_71_0 : fieldOff Tryd.prog 71 0 = some 0 := by kernel_rfl
theorem fc_71_0 : fieldCell Tryd.prog 71 0 = some 0 := by kernel_rfl
theorem fo_71_1 : fieldOff Tryd.prog 71 1 = some 1 := by kernel_rfl
theorem fc_71_1 : fieldCell Tryd.prog 71 1 = some 1 := by kernel_rfl
theorem fo_71_2 : fieldOff Tryd.prog 71 2 = some 2 := by kernel_rfl
theorem fc_71_2 : fieldCell Tryd.prog 71 2 = some 2 := by kernel_rfl
theorem fo_71_3 : fieldOff Tryd.prog 71 3 = some 3 := by kernel_rfl
theorem fc_71_3 : fieldCell Tryd.prog 71 3 = some 3 := by kernel_rfl
theorem fo_71_4 : fieldOff Tryd.prog 71 4 = some 4 := by kernel_rfl
theorem fc_71_4 : fieldCell Tryd.prog 71 4 = some 4 := by kernel_rfl
theorem fo_71_5 : fieldOff Tryd.prog 71 5 = some 5 := by kernel_rfl
theorem fc_71_5 : fieldCell Tryd.prog 71 5 = some 5 := by kernel_rfl
theorem ag_73 : agT Tryd.prog 73 = some 2 := by kernel_rfl
theorem sz_73 : szT Tryd.prog 73 = some 2 := by kernel_rfl
theorem zr_73 : zeroCs Tryd.prog 73 = some [.int .u64 0, .slice none 0 0] := by kernel_rfl
theorem fo_73_0 : fieldOff Tryd.prog 73 0 = some 0 := by kernel_rfl
theorem fc_73_0 : fieldCell Tryd.prog 73 0 = some 0 := by kernel_rfl
theorem fo_73_1 : fieldOff Tryd.prog 73 1 = some 1 := by kernel_rfl
theorem fc_73_1 : fieldCell Tryd.prog 73 1 = some 1 := by kernel_rfl
theorem ag_81 : agT Tryd.prog 81 = some 3 := by kernel_rfl
theorem sz_81 : szT Tryd.prog 81 = some 3 := by kernel_rfl
theorem zr_81 : zeroCs Tryd.prog 81 = some [.pointer none, .int .i64 0, .int .i64 0] := by kernel_rfl
theorem fo_81_0 : fieldOff Tryd.prog 81 0 = some 0 := by kernel_rfl
theorem fc_81_0 : fieldCell Tryd.prog 81 0 = some 0 := by kernel_rfl
theorem fo_81_1 : fieldOff Tryd.prog 81 1 = some 1 := by kernel_rfl
theorem fc_81_1 : fieldCell Tryd.prog 81 1 = some 1 := by kernel_rfl
theorem fo_81_2 : fieldOff Tryd.prog 81 2 = some 2 := by kernel_rfl
theorem fc_81_2 : fieldCell Tryd.prog 81 2 = some 2 := by kernel_rfl
theorem ag_106 : agT Tryd.prog 106 = some 4 := by kernel_rfl
theorem sz_106 : szT Tryd.prog 106 = some 4 := by kernel_rfl
theorem zr_106 : zeroCs Tryd.prog 106 = some [.int .i64 0, .int .i64 0, .int .i64 0, .slice none 0 0] := by kernel_rfl
theorem fo_106_0 : fieldOff Tryd.prog 106 0 = some 0 := by kernel_rfl
theorem fc_106_0 : fieldCell Tryd.prog 106 0 = some 0 := by kernel_rfl
theorem fo_106_1 : fieldOff Tryd.prog 106 1 = some 1 := by kernel_rfl
theorem fc_106_1 : fieldCell Tryd.prog 106 1 = some 1 := by kernel_rfl
theorem fo_106_2 : fieldOff Tryd.prog 106 2 = some 2 := by kernel_rfl
theorem fc_106_2 : fieldCell Tryd.prog 106 2 = some 2 := by kernel_rfl
theorem fo_106_3 : fieldOff Tryd.prog 106 3 = some 3 := by kernel_rfl
theorem fc_106_3 : fieldCell Tryd.prog 106 3 = some 3 := by kernel_rfl
theorem ag_112 : agT Tryd.prog 112 = some 3 := by kernel_rfl
theorem sz_112 : szT Tryd.prog 112 = some 3 := by kernel_rfl
theorem zr_112 : zeroCs Tryd.prog 112 = some [.pointer none, .int .i64 0, .int .i64 0] := by kernel_rfl
theorem fo_112_0 : fieldOff Tryd.prog 112 0 = some 0 := by kernel_rfl
theorem fc_112_0 : fieldCell Tryd.prog 112 0 = some 0 := by kernel_rfl
theorem fo_112_1 : fieldOff Tryd.prog 112 1 = some 1 := by kernel_rfl
theorem fc_112_1 : fieldCell Tryd.prog 112 1 = some 1 := by kernel_rfl
theorem fo_112_2 : fieldOff Tryd.prog 112 2 = some 2 := by kernel_rfl
theorem fc_112_2 : fieldCell Tryd.prog 112 2 = some 2 := by kernel_rfl
theorem ag_118 : agT Tryd.prog 118 = some 64 := by kernel_rfl
theorem sz_118 : szT Tryd.prog 118 = some 64 := by kernel_rfl
theorem zr_118 : zeroCs Tryd.prog 118 = some (List.replicate 64 (.int .u32 0)) := by kernel_rfl
theorem ar_118 : arrOf Tryd.prog 118 = some (64, 1) := by kernel_rfl
theorem ag_122 : agT Tryd.prog 122 = some 16 := by kernel_rfl
theorem sz_122 : szT Tryd.prog 122 = some 16 := by kernel_rfl
theorem zr_122 : zeroCs Tryd.prog 122 = some (List.replicate 16 (.int .u32 0)) := by kernel_rfl
theorem ar_122 : arrOf Tryd.prog 122 = some (2, 8) := by kernel_rfl
theorem ag_131 : agT Tryd.prog 131 = some 2 := by kernel_rfl
theorem sz_131 : szT Tryd.prog 131 = some 2 := by kernel_rfl
theorem zr_131 : zeroCs Tryd.prog 131 = some [.int .i64 0, .slice none 0 0] := by kernel_rfl
theorem fo_131_0 : fieldOff Tryd.prog 131 0 = some 0 := by kernel_rfl
theorem fc_131_0 : fieldCell Tryd.prog 131 0 = some 0 := by kernel_rfl
theorem fo_131_1 : fieldOff Tryd.prog 131 1 = some 1 := by kernel_rfl
theorem fc_131_1 : fieldCell Tryd.prog 131 1 = some 1 := by kernel_rfl
theorem ag_133 : agT Tryd.prog 133 = some 6 := by kernel_rfl
theorem sz_133 : szT Tryd.prog 133 = some 6 := by kernel_rfl
theorem zr_133 : zeroCs Tryd.prog 133 = some [.slice none 0 0, .slice none 0 0, .int .i64 0, .bool false, .int .i64 0, .slice none 0 0] := by kernel_rfl
theorem fo_133_0 : fieldOff Tryd.prog 133 0 = some 0 := by kernel_rfl
theorem fc_133_0 : fieldCell Tryd.prog 133 0 = some 0 := by kernel_rfl
theorem fo_133_1 : fieldOff Tryd.prog 133 1 = some 1 := by kernel_rfl
theorem fc_133_1 : fieldCell Tryd.prog 133 1 = some 1 := by kernel_rfl
theorem fo_133_2 : fieldOff Tryd.prog 133 2 = some 2 := by kernel_rfl
theorem fc_133_2 : fieldCell Tryd.prog 133 2 = some 2 := by kernel_rfl
theorem fo_133_3 : fieldOff Tryd.prog 133 3 = some 3 := by kernel_rfl
theorem fc_133_3 : fieldCell Tryd.prog 133 3 = some 3 := by kernel_rfl
theorem fo_133_4 : fieldOff Tryd.prog 133 4 = some 4 := by kernel_rfl
theorem fa_133_4 : fieldAgg Tryd.prog 133 4 = some (4, 2) := by kernel_rfl
theorem ag_152 : agT Tryd.prog 152 = some 64 := by kernel_rfl
theorem sz_152 : szT Tryd.prog 152 = some 64 := by kernel_rfl
theorem zr_152 : zeroCs Tryd.prog 152 = some (List.replicate 64 (.int .u8 0)) := by kernel_rfl
theorem ar_152 : arrOf Tryd.prog 152 = some (64, 1) := by kernel_rfl
theorem ag_154 : agT Tryd.prog 154 = some 65 := by kernel_rfl
theorem sz_154 : szT Tryd.prog 154 = some 65 := by kernel_rfl
theorem fo_154_0 : fieldOff Tryd.prog 154 0 = some 0 := by kernel_rfl
theorem fc_154_0 : fieldCell Tryd.prog 154 0 = some 0 := by kernel_rfl
theorem fo_154_1 : fieldOff Tryd.prog 154 1 = some 1 := by kernel_rfl
theorem fa_154_1 : fieldAgg Tryd.prog 154 1 = some (1, 64) := by kernel_rfl
theorem ag_157 : agT Tryd.prog 157 = some 8 := by kernel_rfl
theorem sz_157 : szT Tryd.prog 157 = some 8 := by kernel_rfl
theorem zr_157 : zeroCs Tryd.prog 157 = some [.int .u64 0, .int .u64 0, .int .u64 0, .int .u64 0, .int .u64 0, .int .u64 0, .int .u64 0, .int .u64 0] := by kernel_rfl
theorem ar_157 : arrOf Tryd.prog 157 = some (8, 1) := by kernel_rfl
theorem ag_158 : agT Tryd.prog 158 = some 8 := by kernel_rfl
theorem sz_158 : szT Tryd.prog 158 = some 8 := by kernel_rfl
theorem zr_158 : zeroCs Tryd.prog 158 = some [.int .u64 0, .int .u64 0, .int .u64 0, .int .u64 0, .int .u64 0, .int .u64 0, .int .u64 0, .int .u64 0] := by kernel_rfl
theorem ar_158 : arrOf Tryd.prog 158 = some (8, 1) := by kernel_rfl
theorem ag_178 : agT Tryd.prog 178 = some 2 := by kernel_rfl
theorem sz_178 : szT Tryd.prog 178 = some 2 := by kernel_rfl
theorem zr_178 : zeroCs Tryd.prog 178 = some [.int .i64 0, .slice none 0 0] := by kernel_rfl
theorem fo_178_0 : fieldOff Tryd.prog 178 0 = some 0 := by kernel_rfl
theorem fc_178_0 : fieldCell Tryd.prog 178 0 = some 0 := by kernel_rfl
theorem fo_178_1 : fieldOff Tryd.prog 178 1 = some 1 := by kernel_rfl
theorem fc_178_1 : fieldCell Tryd.prog 178 1 = some 1 := by kernel_rfl
theorem sc_113 : scT Tryd.prog 113 = true := by kernel_rfl
theorem sz_113 : szT Tryd.prog 113 = some 1 := by kernel_rfl
theorem zr_113 : zeroCs Tryd.prog 113 = some [.slice none 0 0] := by kernel_rfl
theorem el_113 : elemSz Tryd.prog 113 = some 1 := by kernel_rfl
theorem sc_115 : scT Tryd.prog 115 = true := by kernel_rfl
theorem sz_115 : szT Tryd.prog 115 = some 1 := by kernel_rfl
theorem zr_115 : zeroCs Tryd.prog 115 = some [.slice none 0 0] := by kernel_rfl
theorem el_115 : elemSz Tryd.prog 115 = some 1 := by kernel_rfl
theorem sc_128 : scT Tryd.prog 128 = true := by kernel_rfl
theorem sz_128 : szT Tryd.prog 128 = some 1 := by kernel_rfl
theorem zr_128 : zeroCs Tryd.prog 128 = some [.slice none 0 0] := by kernel_rfl
theorem el_128 : elemSz Tryd.prog 128 = some 64 := by kernel_rfl
theorem sc_129 : scT Tryd.prog 129 = true := by kernel_rfl
theorem sz_129 : szT Tryd.prog 129 = some 1 := by kernel_rfl
theorem zr_129 : zeroCs Tryd.prog 129 = some [.slice none 0 0] := by kernel_rfl
theorem el_129 : elemSz Tryd.prog 129 = some 65 := by kernel_rfl
theorem sc_46 : scT Tryd.prog 46 = true := by kernel_rfl
theorem sz_46 : szT Tryd.prog 46 = some 1 := by kernel_rfl
theorem zr_46 : zeroCs Tryd.prog 46 = some [.slice none 0 0] := by kernel_rfl
theorem el_46 : elemSz Tryd.prog 46 = some 5 := by kernel_rfl
theorem sc_102 : scT Tryd.prog 102 = true := by kernel_rfl
theorem sz_102 : szT Tryd.prog 102 = some 1 := by kernel_rfl
theorem zr_102 : zeroCs Tryd.prog 102 = some [.slice none 0 0] := by kernel_rfl
theorem el_102 : elemSz Tryd.prog 102 = some 4 := by kernel_rfl
theorem sc_69 : scT Tryd.prog 69 = true := by kernel_rfl
theorem sz_69 : szT Tryd.prog 69 = some 1 := by kernel_rfl
theorem zr_69 : zeroCs Tryd.prog 69 = some [.slice none 0 0] := by kernel_rfl
theorem el_69 : elemSz Tryd.prog 69 = some 2 := by kernel_rfl
theorem sc_165 : scT Tryd.prog 165 = true := by kernel_rfl
theorem sz_165 : szT Tryd.prog 165 = some 1 := by kernel_rfl
theorem zr_165 : zeroCs Tryd.prog 165 = some [.slice none 0 0] := by kernel_rfl
theorem el_165 : elemSz Tryd.prog 165 = some 1 := by kernel_rfl
theorem sc_187 : scT Tryd.prog 187 = true := by kernel_rfl
theorem sz_187 : szT Tryd.prog 187 = some 1 := by kernel_rfl
theorem zr_187 : zeroCs Tryd.prog 187 = some [.slice none 0 0] := by kernel_rfl
theorem el_187 : elemSz Tryd.prog 187 = some 1 := by kernel_rfl
theorem sc_166 : scT Tryd.prog 166 = true := by kernel_rfl
theorem sz_166 : szT Tryd.prog 166 = some 1 := by kernel_rfl
theorem zr_166 : zeroCs Tryd.prog 166 = some [.pointer none] := by kernel_rfl
theorem ag_168 : agT Tryd.prog 168 = some 2 := by kernel_rfl
theorem sz_168 : szT Tryd.prog 168 = some 2 := by kernel_rfl
theorem zr_168 : zeroCs Tryd.prog 168 = some [.pointer none, .slice none 0 0] := by kernel_rfl
theorem fo_168_0 : fieldOff Tryd.prog 168 0 = some 0 := by kernel_rfl
theorem fc_168_0 : fieldCell Tryd.prog 168 0 = some 0 := by kernel_rfl
theorem fo_168_1 : fieldOff Tryd.prog 168 1 = some 1 := by kernel_rfl
theorem fc_168_1 : fieldCell Tryd.prog 168 1 = some 1 := by kernel_rfl
theorem ag_151 : agT Tryd.prog 151 = some 64 := by kernel_rfl
theorem sz_151 : szT Tryd.prog 151 = some 64 := by kernel_rfl
theorem zr_151 : zeroCs Tryd.prog 151 = some (List.replicate 64 (.int .u8 0)) := by kernel_rfl
theorem ar_151 : arrOf Tryd.prog 151 = some (64, 1) := by kernel_rfl
end Go.Proofs.YtokhediaibdkjaaDoor
