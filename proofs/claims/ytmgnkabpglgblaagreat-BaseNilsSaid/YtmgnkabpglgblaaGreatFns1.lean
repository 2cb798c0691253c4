/- The tables of a program as the interpreter asks them: printed by a program of this session out of the translation. -/
import Derived.Test.YtmgnkabpglgblaaGreatTys
namespace AM
open Go Go.Proofs
set_option maxRecDepth 100000
/- whetstone/lex.token -/
noncomputable def Tryz.c88k0 : ACode := (.seq (.seq (.reg [⟨none, .mov (.v 4), none⟩, ⟨none, .mov (.v 0), none⟩, ⟨none, .lenV (.t 0), none⟩, ⟨none, .bin .lss 3 (.t 2) (.t 0), none⟩, ⟨none, .mov (.t 0), none⟩, ⟨none, .mov (.v 0), some (0, true)⟩, ⟨none, .mov (.v 4), some (1, true)⟩, ⟨none, .iaddr 1 (.t 1) (.t 0), some (2, true)⟩, ⟨none, .load false 1 (.t 0), some (3, true)⟩, ⟨none, .call (.c (.fn 123 [])) [.t 0], some (4, true)⟩, ⟨none, .mov (.t 0), some (5, true)⟩, ⟨none, .mov (.v 0), some (0, false)⟩, ⟨none, .mov (.v 4), some (1, false)⟩, ⟨none, .iaddr 1 (.t 1) (.t 0), some (2, false)⟩, ⟨none, .load false 1 (.t 0), some (3, false)⟩, ⟨none, .call (.c (.fn 124 [])) [.t 0], some (4, false)⟩, ⟨none, .pick (.t 5) (.c (.bool true)) (.t 0), some (11, true)⟩, ⟨none, .mov (.t 0), some (12, true)⟩, ⟨none, .mov (.v 0), some (0, false)⟩, ⟨none, .mov (.v 4), some (1, false)⟩, ⟨none, .iaddr 1 (.t 1) (.t 0), some (2, false)⟩, ⟨none, .load false 1 (.t 0), some (3, false)⟩, ⟨none, .bin .eql 5 (.t 0) (.c (.int .u8 95)), some (4, false)⟩, ⟨none, .pick (.t 5) (.c (.bool true)) (.t 0), some (18, true)⟩, ⟨some 9, .pick (.t 19) (.t 0) (.c (.bool false)), none⟩])
 (.cond (.v 9) .skip
 (.exit 1)))
 (.block 2 (.reg [⟨none, .mov (.v 4), none⟩, ⟨none, .bin .add 3 (.t 0) (.c (.int .i64 1)), none⟩, ⟨some 4, .mov (.t 0), none⟩])))
noncomputable def Tryz.c88k1 : ACode := (.seq (.seq (.reg [⟨none, .mov (.v 4), none⟩, ⟨none, .mov (.v 0), none⟩, ⟨none, .lenV (.t 0), none⟩, ⟨none, .bin .lss 3 (.t 2) (.t 0), none⟩, ⟨none, .mov (.t 0), none⟩, ⟨none, .mov (.v 0), some (0, true)⟩, ⟨none, .mov (.v 4), some (1, true)⟩, ⟨none, .iaddr 1 (.t 1) (.t 0), some (2, true)⟩, ⟨none, .load false 1 (.t 0), some (3, true)⟩, ⟨none, .call (.c (.fn 124 [])) [.t 0], some (4, true)⟩, ⟨some 13, .pick (.t 5) (.t 0) (.c (.bool false)), none⟩])
 (.cond (.v 13) .skip
 (.exit 3)))
 (.block 4 (.reg [⟨none, .mov (.v 4), none⟩, ⟨none, .bin .add 3 (.t 0) (.c (.int .i64 1)), none⟩, ⟨some 4, .mov (.t 0), none⟩])))
noncomputable def Tryz.c88 : AFn := ⟨[0, 1, 4, 5, 6, 7, 8, 21, 23, 50, 58, 62, 64, 77, 83], (.seq (.reg [⟨some 2, .alloc 214 [.int .i64 0, .str ⟨#[]⟩, .int .i64 0, .int .i64 0], none⟩, ⟨some 3, .mov (.c (.int .i64 0)), none⟩])
 (.seq (.draw [⟨none, .mov (.v 1), none⟩, ⟨none, .mov (.v 0), none⟩, ⟨none, .mov (.v 1), none⟩, ⟨none, .iaddr 1 (.t 1) (.t 0), none⟩, ⟨none, .load false 1 (.t 0), none⟩, ⟨some 4, .mov (.t 4), none⟩, ⟨some 5, .mov (.t 1), none⟩, ⟨some 6, .mov (.c (.int .i64 4)), none⟩] [0, 0, 0, 6, 14, 1, 63, 127] [])
 (.seq (.block 0 (.seq (.reg [⟨none, .mov (.v 5), none⟩, ⟨none, .call (.c (.fn 123 [])) [.t 0], none⟩, ⟨some 8, .mov (.t 0), none⟩])
 (.cond (.v 8) (.seq (.block 1 (.loop Tryz.c88k0))
 (.seq (.reg [⟨some 6, .mov (.c (.int .i64 1)), none⟩])
 (.seq (.seq (.reg [⟨none, .mov (.v 0), none⟩, ⟨none, .mov (.v 1), none⟩, ⟨none, .mov (.v 4), none⟩, ⟨none, .sliceV 1 (.t 2) (some (.t 1)) (some (.t 0)), none⟩, ⟨none, .b2s (.t 0), none⟩, ⟨some 10, .call (.c (.fn 125 [])) [.t 0], none⟩])
 (.cond (.v 10) (.reg [⟨some 6, .mov (.c (.int .i64 2)), none⟩])
 .skip))
 (.seq (.reg [⟨none, .mov (.v 4), none⟩, ⟨none, .mov (.v 1), none⟩, ⟨none, .bin .sub 3 (.t 1) (.t 0), none⟩, ⟨some 11, .bin .gtr 3 (.t 0) (.c (.int .i64 24)), none⟩])
 (.cond (.v 11) (.seq (.reg [⟨none, .build [.int .i64 0, .str ⟨#[]⟩, .int .i64 0, .int .i64 0] [], none⟩, ⟨none, .store 4 (.v 2) (.t 0), none⟩, ⟨some 3, .mov (.c (.int .i64 3)), none⟩])
 .ret)
 .skip)))))
 (.seq (.reg [⟨none, .mov (.v 5), none⟩, ⟨none, .call (.c (.fn 124 [])) [.t 0], none⟩, ⟨some 12, .mov (.t 0), none⟩])
 (.cond (.v 12) (.seq (.block 3 (.loop Tryz.c88k1))
 (.seq (.reg [⟨some 6, .mov (.c (.int .i64 3)), none⟩])
 (.seq (.reg [⟨none, .mov (.v 4), none⟩, ⟨none, .mov (.v 1), none⟩, ⟨none, .bin .sub 3 (.t 1) (.t 0), none⟩, ⟨some 14, .bin .gtr 3 (.t 0) (.c (.int .i64 40)), none⟩])
 (.cond (.v 14) (.seq (.reg [⟨none, .build [.int .i64 0, .str ⟨#[]⟩, .int .i64 0, .int .i64 0] [], none⟩, ⟨none, .store 4 (.v 2) (.t 0), none⟩, ⟨some 3, .mov (.c (.int .i64 3)), none⟩])
 .ret)
 .skip))))
 (.seq (.reg [⟨none, .mov (.v 4), none⟩, ⟨none, .mov (.v 0), none⟩, ⟨none, .mov (.v 1), none⟩, ⟨none, .call (.c (.fn 126 [])) [.t 1, .t 0], none⟩, ⟨none, .bin .add 3 (.t 3) (.t 0), none⟩, ⟨some 4, .mov (.t 0), none⟩])
 (.seq (.reg [⟨none, .mov (.v 4), none⟩, ⟨none, .mov (.v 1), none⟩, ⟨some 7, .bin .eql 3 (.t 1) (.t 0), none⟩])
 (.cond (.v 7) (.seq (.reg [⟨none, .build [.int .i64 0, .str ⟨#[]⟩, .int .i64 0, .int .i64 0] [], none⟩, ⟨none, .store 4 (.v 2) (.t 0), none⟩, ⟨some 3, .mov (.c (.int .i64 20)), none⟩])
 .ret)
 .skip))))))))
 (.seq (.reg [⟨none, .mov (.v 6), none⟩, ⟨none, .mov (.v 0), none⟩, ⟨none, .mov (.v 1), none⟩, ⟨none, .mov (.v 4), none⟩, ⟨none, .sliceV 1 (.t 2) (some (.t 1)) (some (.t 0)), none⟩, ⟨none, .b2s (.t 0), none⟩, ⟨none, .mov (.v 1), none⟩, ⟨none, .mov (.v 4), none⟩, ⟨none, .build [.int .i64 0, .int .i64 0] [(0, 1, .t 1), (1, 1, .t 0)], none⟩, ⟨none, .build [.int .i64 0, .str ⟨#[]⟩, .int .i64 0, .int .i64 0] [(0, 1, .t 8), (1, 1, .t 3), (2, 2, .t 0)], none⟩, ⟨none, .store 4 (.v 2) (.t 0), none⟩, ⟨some 3, .mov (.c (.int .i64 0)), none⟩])
 .ret)))), [.cell 2 true 4, .tmp 3]⟩
theorem Tryz.fok88 : FnOK Tryz.prog Tryz.tys 88 Tryz.c88 := fn_of (vt := Tryz.c88.vt) Tryz.func88 (by kernel_rfl) (by kernel_rfl)
/- (*whetstone/syntax.parser).take -/
noncomputable def Tryz.c89 : AFn := ⟨[0, 1, 4, 8], (.seq (.reg [⟨some 2, .mov (.c (.bool false)), none⟩])
 (.seq (.seq (.reg [⟨none, .mov (.v 0), none⟩, ⟨none, .mov (.v 1), none⟩, ⟨none, .call (.c (.fn 127 [])) [.t 1, .t 0], none⟩, ⟨some 3, .un .not (.t 0), none⟩])
 (.cond (.v 3) (.seq (.reg [⟨some 2, .mov (.c (.bool false)), none⟩])
 .ret)
 .skip))
 (.seq (.reg [⟨none, .mov (.v 0), none⟩, ⟨none, .nilck (.t 0), none⟩, ⟨none, .faddr 1 (.t 0), none⟩, ⟨none, .load false 1 (.t 0), none⟩, ⟨none, .bin .add 3 (.t 0) (.c (.int .i64 1)), none⟩, ⟨none, .nilck (.t 4), none⟩, ⟨none, .faddr 1 (.t 0), none⟩, ⟨none, .store 1 (.t 0) (.t 2), none⟩])
 (.seq (.reg [⟨some 2, .mov (.c (.bool true)), none⟩])
 .ret)))), [.tmp 2]⟩
theorem Tryz.fok89 : FnOK Tryz.prog Tryz.tys 89 Tryz.c89 := fn_of (vt := Tryz.c89.vt) Tryz.func89 (by kernel_rfl) (by kernel_rfl)
/- (*whetstone/syntax.parser).qual -/
noncomputable def Tryz.c90k0 : ACode := (.block 1 (.seq (.reg [⟨none, .mov (.v 0), none⟩, ⟨none, .call (.c (.fn 128 [])) [.t 0], none⟩, ⟨some 3, .alloc 214 [.int .i64 0, .str ⟨#[]⟩, .int .i64 0, .int .i64 0], none⟩, ⟨none, .store 4 (.t 0) (.t 1), none⟩])
 (.seq (.draw [⟨none, .mov (.v 1), none⟩, ⟨none, .mov (.v 1), none⟩, ⟨none, .nilck (.t 0), none⟩, ⟨none, .faddr 5 (.t 0), none⟩, ⟨none, .load false 1 (.t 0), none⟩, ⟨none, .faddr 1 (.v 3), none⟩, ⟨none, .load false 1 (.t 0), none⟩, ⟨none, .faddr 2 (.v 3), none⟩, ⟨none, .load true 2 (.t 0), none⟩, ⟨none, .build [.int .i64 0, .int .i64 0, .nilSlc, .int .i64 0, .int .i64 0] [(0, 1, .c (.int .i64 1)), (3, 2, .t 0)], none⟩, ⟨none, .faddr 2 (.v 3), none⟩, ⟨none, .load true 2 (.t 0), none⟩, ⟨none, .build [.str ⟨#[]⟩, .int .i64 0, .int .i64 0, .nilSlc, .int .i64 0, .int .i64 0, .int .i64 0, .int .i64 0] [(0, 1, .t 5), (1, 5, .t 2), (6, 2, .t 0)], none⟩, ⟨none, .mkslc 139 8 1 [.str ⟨#[]⟩, .int .i64 0, .int .i64 0, .nilSlc, .int .i64 0, .int .i64 0, .int .i64 0, .int .i64 0] [(0, .t 0)], none⟩, ⟨none, .append 139 8 88 (.t 9) (.t 0), none⟩, ⟨none, .nilck (.t 14), none⟩, ⟨none, .faddr 5 (.t 0), none⟩, ⟨none, .store 1 (.t 0) (.t 2), none⟩] [0, 0, 2, 6, 14, 0, 32, 0, 128, 384, 0, 1024, 4064, 8160, 16382, 32767, 65535, 131071] [])
 (.seq (.seq (.reg [⟨none, .mov (.v 1), none⟩, ⟨none, .nilck (.t 0), none⟩, ⟨none, .faddr 5 (.t 0), none⟩, ⟨none, .load false 1 (.t 0), none⟩, ⟨none, .lenV (.t 0), none⟩, ⟨some 4, .bin .gtr 3 (.t 0) (.c (.int .i64 12)), none⟩])
 (.cond (.v 4) (.reg [⟨none, .faddr 2 (.v 3), none⟩, ⟨none, .load true 2 (.t 0), none⟩, ⟨none, .build [.int .i64 0, .int .i64 0, .int .i64 0] [(0, 2, .t 0), (2, 1, .c (.int .i64 3))], none⟩, ⟨none, .iface 163 (.t 0), none⟩, ⟨none, .pan (.t 0), none⟩])
 .skip))
 (.seq (.reg [⟨none, .mov (.v 0), none⟩, ⟨none, .call (.c (.fn 89 [])) [.t 0, .c (.str ⟨#[44]⟩)], none⟩, ⟨some 5, .un .not (.t 0), none⟩])
 (.cond (.v 5) (.exit 0)
 .skip))))))
noncomputable def Tryz.c90 : AFn := ⟨[0, 1, 4, 5, 44, 51], (.seq (.reg [⟨none, .mov (.v 0), none⟩, ⟨none, .call (.c (.fn 128 [])) [.t 0], none⟩, ⟨some 2, .alloc 214 [.int .i64 0, .str ⟨#[]⟩, .int .i64 0, .int .i64 0], none⟩, ⟨none, .store 4 (.t 0) (.t 1), none⟩])
 (.seq (.draw [⟨none, .mov (.v 1), none⟩, ⟨none, .mov (.v 1), none⟩, ⟨none, .faddr 1 (.v 2), none⟩, ⟨none, .load false 1 (.t 0), none⟩, ⟨none, .faddr 2 (.v 2), none⟩, ⟨none, .load true 2 (.t 0), none⟩, ⟨none, .nilck (.t 5), none⟩, ⟨none, .faddr 2 (.t 0), none⟩, ⟨none, .store 1 (.t 0) (.t 4), none⟩, ⟨none, .nilck (.t 7), none⟩, ⟨none, .faddr 3 (.t 0), none⟩, ⟨none, .store 2 (.t 0) (.t 5), none⟩] [0, 0, 0, 4, 0, 16, 13, 77, 205, 511, 1023, 2047] [(5, [9])])
 (.seq (.reg [⟨none, .mov (.v 0), none⟩, ⟨none, .call (.c (.fn 91 [])) [.t 0, .c (.str ⟨#[40]⟩)], none⟩])
 (.seq (.block 0 (.loop Tryz.c90k0))
 (.seq (.reg [⟨none, .mov (.v 0), none⟩, ⟨none, .call (.c (.fn 91 [])) [.t 0, .c (.str ⟨#[41]⟩)], none⟩])
 (.reg [⟨none, .mov (.v 1), none⟩, ⟨none, .build [.int .i64 0, .int .i64 0, .nilSlc, .int .i64 0, .int .i64 0] [(0, 1, .c (.int .i64 2))], none⟩, ⟨none, .nilck (.t 1), none⟩, ⟨none, .faddr 6 (.t 0), none⟩, ⟨none, .store 5 (.t 0) (.t 2), none⟩])))))), []⟩
theorem Tryz.fok90 : FnOK Tryz.prog Tryz.tys 90 Tryz.c90 := fn_of (vt := Tryz.c90.vt) Tryz.func90 (by kernel_rfl) (by kernel_rfl)
/- (*whetstone/syntax.parser).want -/
noncomputable def Tryz.c91 : AFn := ⟨[0, 1, 4, 5, 11], (.seq (.reg [⟨some 2, .alloc 214 [.int .i64 0, .str ⟨#[]⟩, .int .i64 0, .int .i64 0], none⟩])
 (.seq (.reg [⟨none, .mov (.v 0), none⟩, ⟨none, .call (.c (.fn 94 [])) [.t 0], none⟩, ⟨some 3, .alloc 214 [.int .i64 0, .str ⟨#[]⟩, .int .i64 0, .int .i64 0], none⟩, ⟨none, .store 4 (.t 0) (.t 1), none⟩])
 (.seq (.seq (.reg [⟨none, .mov (.v 0), none⟩, ⟨none, .mov (.v 1), none⟩, ⟨none, .call (.c (.fn 89 [])) [.t 1, .t 0], none⟩, ⟨some 4, .un .not (.t 0), none⟩])
 (.cond (.v 4) (.reg [⟨none, .mov (.v 0), none⟩, ⟨none, .call (.c (.fn 129 [])) [.t 0], none⟩])
 .skip))
 (.seq (.reg [⟨none, .load true 4 (.v 3), none⟩, ⟨none, .store 4 (.v 2) (.t 0), none⟩])
 .ret)))), [.cell 2 true 4]⟩
theorem Tryz.fok91 : FnOK Tryz.prog Tryz.tys 91 Tryz.c91 := fn_of (vt := Tryz.c91.vt) Tryz.func91 (by kernel_rfl) (by kernel_rfl)
/- (*whetstone/syntax.parser).function -/
noncomputable def Tryz.c92k0 : ACode := (.seq (.seq (.reg [⟨none, .mov (.v 0), none⟩, ⟨none, .call (.c (.fn 127 [])) [.t 0, .c (.str ⟨#[41]⟩)], none⟩, ⟨some 4, .un .not (.t 0), none⟩])
 (.cond (.v 4) .skip
 (.exit 0)))
 (.block 1 (.seq (.seq (.reg [⟨none, .mov (.v 1), none⟩, ⟨none, .nilck (.t 0), none⟩, ⟨none, .faddr 5 (.t 0), none⟩, ⟨none, .load false 1 (.t 0), none⟩, ⟨none, .lenV (.t 0), none⟩, ⟨some 5, .bin .gtr 3 (.t 0) (.c (.int .i64 0)), none⟩])
 (.cond (.v 5) (.reg [⟨none, .mov (.v 0), none⟩, ⟨none, .call (.c (.fn 91 [])) [.t 0, .c (.str ⟨#[44]⟩)], none⟩])
 .skip))
 (.seq (.reg [⟨none, .mov (.v 0), none⟩, ⟨none, .call (.c (.fn 128 [])) [.t 0], none⟩, ⟨some 3, .alloc 214 [.int .i64 0, .str ⟨#[]⟩, .int .i64 0, .int .i64 0], none⟩, ⟨none, .store 4 (.t 0) (.t 1), none⟩])
 (.seq (.reg [⟨none, .mov (.v 0), none⟩, ⟨none, .call (.c (.fn 91 [])) [.t 0, .c (.str ⟨#[58]⟩)], none⟩])
 (.seq (.draw [⟨none, .mov (.v 1), none⟩, ⟨none, .mov (.v 1), none⟩, ⟨none, .nilck (.t 0), none⟩, ⟨none, .faddr 5 (.t 0), none⟩, ⟨none, .load false 1 (.t 0), none⟩, ⟨none, .faddr 1 (.v 3), none⟩, ⟨none, .load false 1 (.t 0), none⟩, ⟨none, .mov (.v 0), none⟩, ⟨none, .call (.c (.fn 130 [])) [.t 0], none⟩, ⟨none, .faddr 2 (.v 3), none⟩, ⟨none, .load true 2 (.t 0), none⟩, ⟨none, .build [.str ⟨#[]⟩, .int .i64 0, .int .i64 0, .nilSlc, .int .i64 0, .int .i64 0, .int .i64 0, .int .i64 0] [(0, 1, .t 4), (1, 5, .t 2), (6, 2, .t 0)], none⟩, ⟨none, .mkslc 139 8 1 [.str ⟨#[]⟩, .int .i64 0, .int .i64 0, .nilSlc, .int .i64 0, .int .i64 0, .int .i64 0, .int .i64 0] [(0, .t 0)], none⟩, ⟨none, .append 139 8 88 (.t 8) (.t 0), none⟩, ⟨none, .nilck (.t 13), none⟩, ⟨none, .faddr 5 (.t 0), none⟩, ⟨none, .store 1 (.t 0) (.t 2), none⟩] [0, 0, 2, 6, 14, 0, 32, 0, 128, 0, 512, 2016, 4064, 8190, 16383, 32767, 65535] [(4, [9]), (6, [9]), (10, [0])])
 (.seq (.reg [⟨none, .mov (.v 1), none⟩, ⟨none, .nilck (.t 0), none⟩, ⟨none, .faddr 5 (.t 0), none⟩, ⟨none, .load false 1 (.t 0), none⟩, ⟨none, .lenV (.t 0), none⟩, ⟨some 6, .bin .gtr 3 (.t 0) (.c (.int .i64 6)), none⟩])
 (.cond (.v 6) (.reg [⟨none, .faddr 2 (.v 3), none⟩, ⟨none, .load true 2 (.t 0), none⟩, ⟨none, .build [.int .i64 0, .int .i64 0, .int .i64 0] [(0, 2, .t 0), (2, 1, .c (.int .i64 3))], none⟩, ⟨none, .iface 163 (.t 0), none⟩, ⟨none, .pan (.t 0), none⟩])
 .skip))))))))
noncomputable def Tryz.c92 : AFn := ⟨[0, 1, 4, 5, 22, 28, 56], (.seq (.reg [⟨none, .mov (.v 0), none⟩, ⟨none, .call (.c (.fn 128 [])) [.t 0], none⟩, ⟨some 2, .alloc 214 [.int .i64 0, .str ⟨#[]⟩, .int .i64 0, .int .i64 0], none⟩, ⟨none, .store 4 (.t 0) (.t 1), none⟩])
 (.seq (.draw [⟨none, .mov (.v 1), none⟩, ⟨none, .mov (.v 1), none⟩, ⟨none, .faddr 1 (.v 2), none⟩, ⟨none, .load false 1 (.t 0), none⟩, ⟨none, .faddr 2 (.v 2), none⟩, ⟨none, .load true 2 (.t 0), none⟩, ⟨none, .nilck (.t 5), none⟩, ⟨none, .faddr 2 (.t 0), none⟩, ⟨none, .store 1 (.t 0) (.t 4), none⟩, ⟨none, .nilck (.t 7), none⟩, ⟨none, .faddr 3 (.t 0), none⟩, ⟨none, .store 2 (.t 0) (.t 5), none⟩] [0, 0, 0, 4, 0, 16, 13, 77, 205, 511, 1023, 2047] [(5, [9])])
 (.seq (.reg [⟨none, .mov (.v 0), none⟩, ⟨none, .call (.c (.fn 91 [])) [.t 0, .c (.str ⟨#[40]⟩)], none⟩])
 (.seq (.block 0 (.loop Tryz.c92k0))
 (.seq (.reg [⟨none, .mov (.v 0), none⟩, ⟨none, .call (.c (.fn 91 [])) [.t 0, .c (.str ⟨#[41]⟩)], none⟩])
 (.seq (.reg [⟨none, .mov (.v 0), none⟩, ⟨none, .call (.c (.fn 91 [])) [.t 0, .c (.str ⟨#[45, 62]⟩)], none⟩])
 (.reg [⟨none, .mov (.v 1), none⟩, ⟨none, .mov (.v 0), none⟩, ⟨none, .call (.c (.fn 130 [])) [.t 0], none⟩, ⟨none, .nilck (.t 2), none⟩, ⟨none, .faddr 6 (.t 0), none⟩, ⟨none, .store 5 (.t 0) (.t 2), none⟩]))))))), []⟩
theorem Tryz.fok92 : FnOK Tryz.prog Tryz.tys 92 Tryz.c92 := fn_of (vt := Tryz.c92.vt) Tryz.func92 (by kernel_rfl) (by kernel_rfl)
/- (*whetstone/syntax.parser).expr -/
noncomputable def Tryz.c93 : AFn := ⟨[0, 1, 2, 3, 4, 5, 6, 7, 8, 9, 10, 11, 19, 45, 65], (.seq (.reg [⟨some 1, .box 159 (.v 0), none⟩, ⟨some 2, .alloc 40 [.int .i64 0, .str ⟨#[]⟩, .bool false, .nilSlc, .nilSlc, .int .i64 0, .int .i64 0], none⟩])
 (.seq (.reg [⟨none, .load false 1 (.v 1), none⟩, ⟨none, .call (.c (.fn 131 [])) [.t 0], none⟩])
 (.seq (.reg [⟨none, .fnv 132 [.v 1], none⟩, ⟨none, .defer (.t 0) [], none⟩])
 (.seq (.reg [⟨none, .load false 1 (.v 1), none⟩, ⟨none, .call (.c (.fn 94 [])) [.t 0], none⟩, ⟨none, .fld 2 2 true (.t 0), none⟩, ⟨none, .fld 0 1 false (.t 0), none⟩, ⟨some 3, .mov (.t 0), none⟩])
 (.seq (.block 0 (.seq (.reg [⟨none, .load false 1 (.v 1), none⟩, ⟨none, .call (.c (.fn 89 [])) [.t 0, .c (.str ⟨#[108, 101, 116]⟩)], none⟩, ⟨some 12, .mov (.t 0), none⟩])
 (.cond (.v 12) (.seq (.reg [⟨none, .load false 1 (.v 1), none⟩, ⟨none, .call (.c (.fn 128 [])) [.t 0], none⟩, ⟨none, .fld 1 1 false (.t 0), none⟩, ⟨some 4, .mov (.t 0), none⟩])
 (.seq (.reg [⟨none, .load false 1 (.v 1), none⟩, ⟨none, .call (.c (.fn 91 [])) [.t 0, .c (.str ⟨#[61]⟩)], none⟩])
 (.seq (.reg [⟨none, .load false 1 (.v 1), none⟩, ⟨none, .call (.c (.fn 93 [])) [.t 0], none⟩, ⟨some 5, .alloc 40 [.int .i64 0, .str ⟨#[]⟩, .bool false, .nilSlc, .nilSlc, .int .i64 0, .int .i64 0], none⟩, ⟨none, .store 7 (.t 0) (.t 1), none⟩])
 (.seq (.reg [⟨none, .load false 1 (.v 1), none⟩, ⟨none, .call (.c (.fn 91 [])) [.t 0, .c (.str ⟨#[105, 110]⟩)], none⟩])
 (.seq (.draw [⟨none, .load false 1 (.v 1), none⟩, ⟨none, .mov (.v 3), none⟩, ⟨none, .load true 7 (.v 5), none⟩, ⟨none, .load false 1 (.v 1), none⟩, ⟨none, .call (.c (.fn 93 [])) [.t 0], none⟩, ⟨none, .mkslc 40 7 2 [.int .i64 0, .str ⟨#[]⟩, .bool false, .nilSlc, .nilSlc, .int .i64 0, .int .i64 0] [(0, .t 2), (1, .t 0)], none⟩, ⟨none, .call (.c (.fn 133 [])) [.t 5, .c (.int .i64 21), .t 4, .t 0], none⟩, ⟨some 6, .alloc 40 [.int .i64 0, .str ⟨#[]⟩, .bool false, .nilSlc, .nilSlc, .int .i64 0, .int .i64 0], none⟩, ⟨none, .store 7 (.t 0) (.t 1), none⟩] [0, 0, 0, 0, 8, 28, 63, 0, 255] [(0, [5]), (2, [5])])
 (.seq (.reg [⟨none, .mov (.v 4), none⟩, ⟨none, .load false 1 (.v 1), none⟩, ⟨none, .mov (.v 3), none⟩, ⟨none, .call (.c (.fn 134 [])) [.t 1, .t 0], none⟩, ⟨none, .faddr 1 (.v 6), none⟩, ⟨none, .store 1 (.t 0) (.t 4), none⟩, ⟨none, .faddr 5 (.v 6), none⟩, ⟨none, .store 2 (.t 0) (.t 3), none⟩])
 (.seq (.reg [⟨none, .load true 7 (.v 6), none⟩, ⟨none, .store 7 (.v 2) (.t 0), none⟩])
 .ret)))))))
 (.seq (.reg [⟨none, .load false 1 (.v 1), none⟩, ⟨none, .call (.c (.fn 89 [])) [.t 0, .c (.str ⟨#[105, 102]⟩)], none⟩, ⟨some 13, .mov (.t 0), none⟩])
 (.cond (.v 13) (.seq (.reg [⟨none, .load false 1 (.v 1), none⟩, ⟨none, .call (.c (.fn 93 [])) [.t 0], none⟩, ⟨some 7, .alloc 40 [.int .i64 0, .str ⟨#[]⟩, .bool false, .nilSlc, .nilSlc, .int .i64 0, .int .i64 0], none⟩, ⟨none, .store 7 (.t 0) (.t 1), none⟩])
 (.seq (.reg [⟨none, .load false 1 (.v 1), none⟩, ⟨none, .call (.c (.fn 91 [])) [.t 0, .c (.str ⟨#[116, 104, 101, 110]⟩)], none⟩])
 (.seq (.reg [⟨none, .load false 1 (.v 1), none⟩, ⟨none, .call (.c (.fn 93 [])) [.t 0], none⟩, ⟨some 8, .alloc 40 [.int .i64 0, .str ⟨#[]⟩, .bool false, .nilSlc, .nilSlc, .int .i64 0, .int .i64 0], none⟩, ⟨none, .store 7 (.t 0) (.t 1), none⟩])
 (.seq (.reg [⟨none, .load false 1 (.v 1), none⟩, ⟨none, .call (.c (.fn 91 [])) [.t 0, .c (.str ⟨#[101, 108, 115, 101]⟩)], none⟩])
 (.seq (.reg [⟨none, .load false 1 (.v 1), none⟩, ⟨none, .call (.c (.fn 93 [])) [.t 0], none⟩, ⟨some 9, .alloc 40 [.int .i64 0, .str ⟨#[]⟩, .bool false, .nilSlc, .nilSlc, .int .i64 0, .int .i64 0], none⟩, ⟨none, .store 7 (.t 0) (.t 1), none⟩])
 (.seq (.reg [⟨none, .load false 1 (.v 1), none⟩, ⟨none, .mov (.v 3), none⟩, ⟨none, .load true 7 (.v 7), none⟩, ⟨none, .load true 7 (.v 8), none⟩, ⟨none, .load true 7 (.v 9), none⟩, ⟨none, .mkslc 40 7 3 [.int .i64 0, .str ⟨#[]⟩, .bool false, .nilSlc, .nilSlc, .int .i64 0, .int .i64 0] [(0, .t 2), (1, .t 1), (2, .t 0)], none⟩, ⟨none, .call (.c (.fn 133 [])) [.t 5, .c (.int .i64 22), .t 4, .t 0], none⟩, ⟨none, .store 7 (.v 2) (.t 0), none⟩])
 .ret))))))
 (.seq (.reg [⟨none, .load false 1 (.v 1), none⟩, ⟨none, .call (.c (.fn 89 [])) [.t 0, .c (.str ⟨#[97, 115, 115, 101, 114, 116]⟩)], none⟩, ⟨some 14, .mov (.t 0), none⟩])
 (.cond (.v 14) (.seq (.reg [⟨none, .load false 1 (.v 1), none⟩, ⟨none, .call (.c (.fn 93 [])) [.t 0], none⟩, ⟨some 10, .alloc 40 [.int .i64 0, .str ⟨#[]⟩, .bool false, .nilSlc, .nilSlc, .int .i64 0, .int .i64 0], none⟩, ⟨none, .store 7 (.t 0) (.t 1), none⟩])
 (.seq (.reg [⟨none, .load false 1 (.v 1), none⟩, ⟨none, .call (.c (.fn 91 [])) [.t 0, .c (.str ⟨#[105, 110]⟩)], none⟩])
 (.seq (.reg [⟨none, .load false 1 (.v 1), none⟩, ⟨none, .call (.c (.fn 93 [])) [.t 0], none⟩, ⟨some 11, .alloc 40 [.int .i64 0, .str ⟨#[]⟩, .bool false, .nilSlc, .nilSlc, .int .i64 0, .int .i64 0], none⟩, ⟨none, .store 7 (.t 0) (.t 1), none⟩])
 (.seq (.reg [⟨none, .load false 1 (.v 1), none⟩, ⟨none, .mov (.v 3), none⟩, ⟨none, .load true 7 (.v 10), none⟩, ⟨none, .load true 7 (.v 11), none⟩, ⟨none, .mkslc 40 7 2 [.int .i64 0, .str ⟨#[]⟩, .bool false, .nilSlc, .nilSlc, .int .i64 0, .int .i64 0] [(0, .t 1), (1, .t 0)], none⟩, ⟨none, .call (.c (.fn 133 [])) [.t 4, .c (.int .i64 23), .t 3, .t 0], none⟩, ⟨none, .store 7 (.v 2) (.t 0), none⟩])
 .ret))))
 .skip)))))))
 (.seq (.reg [⟨none, .load false 1 (.v 1), none⟩, ⟨none, .call (.c (.fn 135 [])) [.t 0, .c (.int .i64 0)], none⟩, ⟨none, .store 7 (.v 2) (.t 0), none⟩])
 .ret)))))), [.cell 2 true 7]⟩
theorem Tryz.fok93 : FnOK Tryz.prog Tryz.tys 93 Tryz.c93 := fn_of (vt := Tryz.c93.vt) Tryz.func93 (by kernel_rfl) (by kernel_rfl)
/- (*whetstone/syntax.parser).now -/
noncomputable def Tryz.c94 : AFn := ⟨[0, 2], (.seq (.reg [⟨some 1, .alloc 214 [.int .i64 0, .str ⟨#[]⟩, .int .i64 0, .int .i64 0], none⟩])
 (.seq (.draw [⟨none, .mov (.v 0), none⟩, ⟨none, .nilck (.t 0), none⟩, ⟨none, .faddr 0 (.t 0), none⟩, ⟨none, .load false 1 (.t 0), none⟩, ⟨none, .mov (.v 0), none⟩, ⟨none, .nilck (.t 0), none⟩, ⟨none, .faddr 1 (.t 0), none⟩, ⟨none, .load false 1 (.t 0), none⟩, ⟨none, .iaddr 4 (.t 4) (.t 0), none⟩, ⟨none, .load true 4 (.t 0), none⟩, ⟨none, .store 4 (.v 1) (.t 0), none⟩] [0, 1, 3, 7, 0, 16, 48, 112, 255, 511, 1023] [])
 .ret)), [.cell 1 true 4]⟩
theorem Tryz.fok94 : FnOK Tryz.prog Tryz.tys 94 Tryz.c94 := fn_of (vt := Tryz.c94.vt) Tryz.func94 (by kernel_rfl) (by kernel_rfl)
/- (*whetstone/syntax.parser).fail -/
noncomputable def Tryz.c95 : AFn := ⟨[0, 1], (.reg [⟨none, .mov (.v 0), none⟩, ⟨none, .call (.c (.fn 94 [])) [.t 0], none⟩, ⟨none, .fld 2 2 true (.t 0), none⟩, ⟨none, .mov (.v 1), none⟩, ⟨none, .build [.int .i64 0, .int .i64 0, .int .i64 0] [(0, 2, .t 1), (2, 1, .t 0)], none⟩, ⟨none, .iface 163 (.t 0), none⟩, ⟨none, .pan (.t 0), none⟩]), []⟩
theorem Tryz.fok95 : FnOK Tryz.prog Tryz.tys 95 Tryz.c95 := fn_of (vt := Tryz.c95.vt) Tryz.func95 (by kernel_rfl) (by kernel_rfl)
/- whetstone/whetstoneref08.Marks -/
noncomputable def Tryz.c96k0 : ACode := (.seq (.seq (.reg [⟨none, .mov (.v 4), none⟩, ⟨none, .mov (.v 0), none⟩, ⟨none, .lenV (.t 0), none⟩, ⟨some 5, .bin .lss 3 (.t 2) (.t 0), none⟩])
 (.cond (.v 5) .skip
 (.exit 0)))
 (.seq (.block 1 (.seq (.seq (.reg [⟨none, .mov (.v 3), none⟩, ⟨none, .mov (.t 0), none⟩, ⟨none, .mov (.v 0), some (0, true)⟩, ⟨none, .mov (.v 4), some (1, true)⟩, ⟨none, .iaddr 1 (.t 1) (.t 0), some (2, true)⟩, ⟨none, .load false 1 (.t 0), some (3, true)⟩, ⟨none, .bin .eql 5 (.t 0) (.c (.int .u8 10)), some (4, true)⟩, ⟨some 6, .pick (.t 5) (.t 0) (.c (.bool false)), none⟩])
 (.cond (.v 6) (.reg [⟨some 3, .mov (.c (.bool false)), none⟩])
 .skip))
 (.seq (.seq (.reg [⟨none, .mov (.v 3), none⟩, ⟨none, .un .not (.t 0), none⟩, ⟨none, .mov (.t 0), none⟩, ⟨none, .mov (.v 0), some (0, true)⟩, ⟨none, .mov (.v 4), some (1, true)⟩, ⟨none, .iaddr 1 (.t 1) (.t 0), some (2, true)⟩, ⟨none, .load false 1 (.t 0), some (3, true)⟩, ⟨none, .bin .eql 5 (.t 0) (.c (.int .u8 47)), some (4, true)⟩, ⟨none, .pick (.t 5) (.t 0) (.c (.bool false)), none⟩, ⟨none, .mov (.t 0), none⟩, ⟨none, .mov (.v 4), some (0, true)⟩, ⟨none, .bin .add 3 (.t 0) (.c (.int .i64 1)), some (1, true)⟩, ⟨none, .mov (.v 0), some (2, true)⟩, ⟨none, .lenV (.t 0), some (3, true)⟩, ⟨none, .bin .lss 3 (.t 2) (.t 0), some (4, true)⟩, ⟨none, .pick (.t 5) (.t 0) (.c (.bool false)), none⟩, ⟨none, .mov (.t 0), none⟩, ⟨none, .mov (.v 0), some (0, true)⟩, ⟨none, .mov (.v 4), some (1, true)⟩, ⟨none, .bin .add 3 (.t 0) (.c (.int .i64 1)), some (2, true)⟩, ⟨none, .iaddr 1 (.t 2) (.t 0), some (3, true)⟩, ⟨none, .load false 1 (.t 0), some (4, true)⟩, ⟨none, .bin .eql 5 (.t 0) (.c (.int .u8 47)), some (5, true)⟩, ⟨some 7, .pick (.t 6) (.t 0) (.c (.bool false)), none⟩])
 (.cond (.v 7) (.reg [⟨some 3, .mov (.c (.bool true)), none⟩])
 .skip))
 (.seq (.reg [⟨none, .mov (.v 3), none⟩, ⟨none, .mov (.t 0), none⟩, ⟨none, .mov (.v 0), some (0, false)⟩, ⟨none, .mov (.v 4), some (1, false)⟩, ⟨none, .iaddr 1 (.t 1) (.t 0), some (2, false)⟩, ⟨none, .load false 1 (.t 0), some (3, false)⟩, ⟨none, .bin .eql 5 (.t 0) (.c (.int .u8 32)), some (4, false)⟩, ⟨none, .pick (.t 5) (.c (.bool true)) (.t 0), none⟩, ⟨none, .mov (.t 0), none⟩, ⟨none, .mov (.v 0), some (0, false)⟩, ⟨none, .mov (.v 4), some (1, false)⟩, ⟨none, .iaddr 1 (.t 1) (.t 0), some (2, false)⟩, ⟨none, .load false 1 (.t 0), some (3, false)⟩, ⟨none, .bin .eql 5 (.t 0) (.c (.int .u8 9)), some (4, false)⟩, ⟨none, .pick (.t 5) (.c (.bool true)) (.t 0), none⟩, ⟨none, .mov (.t 0), none⟩, ⟨none, .mov (.v 0), some (0, false)⟩, ⟨none, .mov (.v 4), some (1, false)⟩, ⟨none, .iaddr 1 (.t 1) (.t 0), some (2, false)⟩, ⟨none, .load false 1 (.t 0), some (3, false)⟩, ⟨none, .bin .eql 5 (.t 0) (.c (.int .u8 10)), some (4, false)⟩, ⟨none, .pick (.t 5) (.c (.bool true)) (.t 0), none⟩, ⟨none, .mov (.t 0), none⟩, ⟨none, .mov (.v 0), some (0, false)⟩, ⟨none, .mov (.v 4), some (1, false)⟩, ⟨none, .iaddr 1 (.t 1) (.t 0), some (2, false)⟩, ⟨none, .load false 1 (.t 0), some (3, false)⟩, ⟨none, .bin .eql 5 (.t 0) (.c (.int .u8 13)), some (4, false)⟩, ⟨some 8, .pick (.t 5) (.c (.bool true)) (.t 0), none⟩])
 (.cond (.v 8) (.reg [⟨none, .mov (.v 2), none⟩, ⟨none, .mov (.v 4), none⟩, ⟨none, .iaddr 1 (.t 1) (.t 0), none⟩, ⟨none, .store 1 (.t 0) (.c (.int .i64 1)), none⟩])
 .skip)))))
 (.reg [⟨none, .mov (.v 4), none⟩, ⟨none, .bin .add 3 (.t 0) (.c (.int .i64 1)), none⟩, ⟨some 4, .mov (.t 0), none⟩])))
noncomputable def Tryz.c96 : AFn := ⟨[0, 2, 3, 4, 5, 12, 22, 46, 75], (.seq (.reg [⟨some 1, .mov (.c (.nilSlc)), none⟩])
 (.seq (.reg [⟨none, .mov (.v 0), none⟩, ⟨none, .lenV (.t 0), none⟩, ⟨none, .make 3 1 8 [.int .i64 0] (.t 0) (.t 0), none⟩, ⟨some 2, .mov (.t 0), none⟩])
 (.seq (.reg [⟨some 3, .mov (.c (.bool false)), none⟩])
 (.seq (.seq (.reg [⟨some 4, .mov (.c (.int .i64 0)), none⟩])
 (.block 0 (.loop Tryz.c96k0)))
 (.seq (.reg [⟨none, .mov (.v 2), none⟩, ⟨some 1, .mov (.t 0), none⟩])
 .ret))))), [.tmp 1]⟩
theorem Tryz.fok96 : FnOK Tryz.prog Tryz.tys 96 Tryz.c96 := fn_of (vt := Tryz.c96.vt) Tryz.func96 (by kernel_rfl) (by kernel_rfl)
/- whetstone/whetstoneref10.less -/
noncomputable def Tryz.c97 : AFn := ⟨[0, 1, 2, 3, 4, 11, 25, 37], (.seq (.reg [⟨some 2, .box 169 (.v 0), none⟩, ⟨some 3, .box 169 (.v 1), none⟩, ⟨some 4, .mov (.c (.bool false)), none⟩])
 (.seq (.seq (.reg [⟨none, .faddr 0 (.v 2), none⟩, ⟨none, .faddr 0 (.t 0), none⟩, ⟨none, .load false 1 (.t 0), none⟩, ⟨none, .faddr 0 (.v 3), none⟩, ⟨none, .faddr 0 (.t 0), none⟩, ⟨none, .load false 1 (.t 0), none⟩, ⟨some 5, .bin .neq 3 (.t 3) (.t 0), none⟩])
 (.cond (.v 5) (.seq (.reg [⟨none, .faddr 0 (.v 2), none⟩, ⟨none, .faddr 0 (.t 0), none⟩, ⟨none, .load false 1 (.t 0), none⟩, ⟨none, .faddr 0 (.v 3), none⟩, ⟨none, .faddr 0 (.t 0), none⟩, ⟨none, .load false 1 (.t 0), none⟩, ⟨none, .bin .lss 3 (.t 3) (.t 0), none⟩, ⟨some 4, .mov (.t 0), none⟩])
 .ret)
 .skip))
 (.seq (.seq (.reg [⟨none, .faddr 0 (.v 2), none⟩, ⟨none, .faddr 1 (.t 0), none⟩, ⟨none, .load false 1 (.t 0), none⟩, ⟨none, .faddr 0 (.v 3), none⟩, ⟨none, .faddr 1 (.t 0), none⟩, ⟨none, .load false 1 (.t 0), none⟩, ⟨some 6, .bin .neq 3 (.t 3) (.t 0), none⟩])
 (.cond (.v 6) (.seq (.reg [⟨none, .faddr 0 (.v 2), none⟩, ⟨none, .faddr 1 (.t 0), none⟩, ⟨none, .load false 1 (.t 0), none⟩, ⟨none, .faddr 0 (.v 3), none⟩, ⟨none, .faddr 1 (.t 0), none⟩, ⟨none, .load false 1 (.t 0), none⟩, ⟨none, .bin .lss 3 (.t 3) (.t 0), none⟩, ⟨some 4, .mov (.t 0), none⟩])
 .ret)
 .skip))
 (.seq (.seq (.reg [⟨none, .faddr 2 (.v 2), none⟩, ⟨none, .load false 1 (.t 0), none⟩, ⟨none, .faddr 2 (.v 3), none⟩, ⟨none, .load false 1 (.t 0), none⟩, ⟨some 7, .bin .neq 3 (.t 2) (.t 0), none⟩])
 (.cond (.v 7) (.seq (.reg [⟨none, .faddr 2 (.v 2), none⟩, ⟨none, .load false 1 (.t 0), none⟩, ⟨none, .faddr 2 (.v 3), none⟩, ⟨none, .load false 1 (.t 0), none⟩, ⟨none, .bin .lss 3 (.t 2) (.t 0), none⟩, ⟨some 4, .mov (.t 0), none⟩])
 .ret)
 .skip))
 (.seq (.reg [⟨none, .faddr 3 (.v 2), none⟩, ⟨none, .load false 1 (.t 0), none⟩, ⟨none, .faddr 3 (.v 3), none⟩, ⟨none, .load false 1 (.t 0), none⟩, ⟨none, .bin .lss 9 (.t 2) (.t 0), none⟩, ⟨some 4, .mov (.t 0), none⟩])
 .ret))))), [.tmp 4]⟩
theorem Tryz.fok97 : FnOK Tryz.prog Tryz.tys 97 Tryz.c97 := fn_of (vt := Tryz.c97.vt) Tryz.func97 (by kernel_rfl) (by kernel_rfl)
/- (*whetstone/whetstoneref10.Checker).fail -/
noncomputable def Tryz.c98 : AFn := ⟨[0, 1, 2, 3, 12], (.seq (.reg [⟨none, .mov (.v 0), none⟩, ⟨none, .nilck (.t 0), none⟩, ⟨none, .faddr 2 (.t 0), none⟩, ⟨none, .load false 1 (.t 0), none⟩, ⟨some 4, .bin .eql 3 (.t 0) (.c (.int .i64 0)), none⟩])
 (.cond (.v 4) (.seq (.reg [⟨none, .mov (.v 0), none⟩, ⟨none, .mov (.v 1), none⟩, ⟨none, .nilck (.t 1), none⟩, ⟨none, .faddr 2 (.t 0), none⟩, ⟨none, .store 1 (.t 0) (.t 2), none⟩])
 (.seq (.reg [⟨none, .mov (.v 0), none⟩, ⟨none, .mov (.v 2), none⟩, ⟨none, .nilck (.t 1), none⟩, ⟨none, .faddr 3 (.t 0), none⟩, ⟨none, .store 1 (.t 0) (.t 2), none⟩])
 (.reg [⟨none, .mov (.v 0), none⟩, ⟨none, .mov (.v 3), none⟩, ⟨none, .nilck (.t 1), none⟩, ⟨none, .faddr 4 (.t 0), none⟩, ⟨none, .store 1 (.t 0) (.t 2), none⟩])))
 .skip)), []⟩
theorem Tryz.fok98 : FnOK Tryz.prog Tryz.tys 98 Tryz.c98 := fn_of (vt := Tryz.c98.vt) Tryz.func98 (by kernel_rfl) (by kernel_rfl)
/- (*whetstone/whetstoneref10.Checker).typed -/
noncomputable def Tryz.c99 : AFn := ⟨[0, 1, 2, 4, 16, 19], (.seq (.reg [⟨some 3, .box 47 (.v 1), none⟩])
 (.seq (.seq (.reg [⟨none, .faddr 2 (.v 3), none⟩, ⟨none, .load false 1 (.t 0), none⟩, ⟨none, .lenV (.t 0), none⟩, ⟨none, .bin .eql 3 (.t 0) (.c (.int .i64 0)), none⟩, ⟨none, .mov (.t 0), none⟩, ⟨none, .mov (.v 0), some (0, false)⟩, ⟨none, .nilck (.t 0), some (1, false)⟩, ⟨none, .faddr 2 (.t 0), some (2, false)⟩, ⟨none, .load false 1 (.t 0), some (3, false)⟩, ⟨none, .bin .neq 3 (.t 0) (.c (.int .i64 0)), some (4, false)⟩, ⟨some 4, .pick (.t 5) (.c (.bool true)) (.t 0), none⟩])
 (.cond (.v 4) .ret
 .skip))
 (.seq (.seq (.reg [⟨none, .faddr 0 (.v 3), none⟩, ⟨none, .load false 1 (.t 0), none⟩, ⟨some 5, .bin .eql 3 (.t 0) (.c (.int .i64 3)), none⟩])
 (.cond (.v 5) (.seq (.reg [⟨none, .mov (.v 0), none⟩, ⟨none, .faddr 3 (.v 3), none⟩, ⟨none, .load false 1 (.t 0), none⟩, ⟨none, .faddr 4 (.v 3), none⟩, ⟨none, .load false 1 (.t 0), none⟩, ⟨none, .call (.c (.fn 98 [])) [.t 4, .c (.int .i64 26), .t 2, .t 0], none⟩])
 .ret)
 .skip))
 (.seq (.reg [⟨none, .mov (.v 0), none⟩, ⟨none, .nilck (.t 0), none⟩, ⟨none, .faddr 1 (.t 0), none⟩, ⟨none, .store 1 (.t 0) (.c (.bool true)), none⟩])
 (.seq (.draw [⟨none, .mov (.v 0), none⟩, ⟨none, .faddr 2 (.v 3), none⟩, ⟨none, .load false 1 (.t 0), none⟩, ⟨none, .iaddr 6 (.t 0) (.c (.int .i64 0)), none⟩, ⟨none, .load true 6 (.t 0), none⟩, ⟨none, .build [.int .i64 0, .int .i64 0] [(0, 1, .c (.int .i64 2))], none⟩, ⟨none, .mov (.v 2), none⟩, ⟨none, .load true 5 (.v 3), none⟩, ⟨none, .call (.c (.fn 16 [])) [.t 0], none⟩, ⟨none, .call (.c (.fn 101 [])) [.t 2, .c (.str ⟨#[118]⟩), .t 0], none⟩, ⟨none, .call (.c (.fn 102 [])) [.t 9, .t 5, .t 4, .t 0], none⟩] [0, 0, 2, 6, 14, 0, 0, 0, 128, 448, 1023] [(2, [9, 10]), (4, [9, 10])])
 (.reg [⟨none, .mov (.v 0), none⟩, ⟨none, .nilck (.t 0), none⟩, ⟨none, .faddr 1 (.t 0), none⟩, ⟨none, .store 1 (.t 0) (.c (.bool false)), none⟩])))))), []⟩
theorem Tryz.fok99 : FnOK Tryz.prog Tryz.tys 99 Tryz.c99 := fn_of (vt := Tryz.c99.vt) Tryz.func99 (by kernel_rfl) (by kernel_rfl)
/- whetstone/whetstoneref10.find -/
noncomputable def Tryz.c100k0 : ACode := (.seq (.seq (.reg [⟨none, .mov (.v 4), none⟩, ⟨some 5, .bin .geq 3 (.t 0) (.c (.int .i64 0)), none⟩])
 (.cond (.v 5) .skip
 (.exit 0)))
 (.seq (.block 1 (.seq (.reg [⟨none, .mov (.v 0), none⟩, ⟨none, .mov (.v 4), none⟩, ⟨none, .iaddr 3 (.t 1) (.t 0), none⟩, ⟨none, .faddr 0 (.t 0), none⟩, ⟨none, .load false 1 (.t 0), none⟩, ⟨none, .mov (.v 1), none⟩, ⟨some 6, .bin .eql 9 (.t 1) (.t 0), none⟩])
 (.cond (.v 6) (.seq (.reg [⟨none, .mov (.v 0), none⟩, ⟨none, .mov (.v 4), none⟩, ⟨none, .iaddr 3 (.t 1) (.t 0), none⟩, ⟨none, .faddr 1 (.t 0), none⟩, ⟨none, .load true 2 (.t 0), none⟩, ⟨none, .store 2 (.v 2) (.t 0), none⟩, ⟨some 3, .mov (.c (.bool true)), none⟩])
 .ret)
 .skip)))
 (.reg [⟨none, .mov (.v 4), none⟩, ⟨none, .bin .sub 3 (.t 0) (.c (.int .i64 1)), none⟩, ⟨some 4, .mov (.t 0), none⟩])))
noncomputable def Tryz.c100 : AFn := ⟨[0, 1, 4, 5, 6, 11, 20], (.seq (.reg [⟨some 2, .alloc 55 [.int .i64 0, .int .i64 0], none⟩, ⟨some 3, .mov (.c (.bool false)), none⟩])
 (.seq (.seq (.reg [⟨none, .mov (.v 0), none⟩, ⟨none, .lenV (.t 0), none⟩, ⟨none, .bin .sub 3 (.t 0) (.c (.int .i64 1)), none⟩, ⟨some 4, .mov (.t 0), none⟩])
 (.block 0 (.loop Tryz.c100k0)))
 (.seq (.reg [⟨none, .build [.int .i64 0, .int .i64 0] [], none⟩, ⟨none, .store 2 (.v 2) (.t 0), none⟩, ⟨some 3, .mov (.c (.bool false)), none⟩])
 .ret))), [.cell 2 true 2, .tmp 3]⟩
theorem Tryz.fok100 : FnOK Tryz.prog Tryz.tys 100 Tryz.c100 := fn_of (vt := Tryz.c100.vt) Tryz.func100 (by kernel_rfl) (by kernel_rfl)
/- whetstone/whetstoneref10.with -/
noncomputable def Tryz.c101 : AFn := ⟨[0, 1, 2, 5, 6, 7], (.seq (.reg [⟨some 3, .box 55 (.v 2), none⟩, ⟨some 4, .mov (.c (.nilSlc)), none⟩])
 (.seq (.reg [⟨some 5, .mov (.c (.nilSlc)), none⟩])
 (.seq (.reg [⟨none, .mov (.v 5), none⟩, ⟨none, .mov (.v 0), none⟩, ⟨none, .append 256 3 32 (.t 1) (.t 0), none⟩, ⟨some 5, .mov (.t 0), none⟩])
 (.seq (.reg [⟨none, .mov (.v 5), none⟩, ⟨none, .mov (.v 1), none⟩, ⟨none, .load true 2 (.v 3), none⟩, ⟨none, .build [.str ⟨#[]⟩, .int .i64 0, .int .i64 0] [(0, 1, .t 1), (1, 2, .t 0)], none⟩, ⟨none, .mkslc 256 3 1 [.str ⟨#[]⟩, .int .i64 0, .int .i64 0] [(0, .t 0)], none⟩, ⟨none, .append 256 3 32 (.t 4) (.t 0), none⟩, ⟨some 4, .mov (.t 0), none⟩])
 .ret)))), [.tmp 4]⟩
theorem Tryz.fok101 : FnOK Tryz.prog Tryz.tys 101 Tryz.c101 := fn_of (vt := Tryz.c101.vt) Tryz.func101 (by kernel_rfl) (by kernel_rfl)
/- (*whetstone/whetstoneref10.Checker).want -/
noncomputable def Tryz.c102 : AFn := ⟨[0, 1, 2, 3, 5, 6, 8, 22], (.seq (.reg [⟨some 4, .box 49 (.v 1), none⟩, ⟨some 5, .box 55 (.v 2), none⟩])
 (.seq (.reg [⟨none, .mov (.v 0), none⟩, ⟨none, .load true 6 (.v 4), none⟩, ⟨none, .mov (.v 3), none⟩, ⟨none, .call (.c (.fn 136 [])) [.t 2, .t 1, .t 0], none⟩, ⟨some 6, .alloc 55 [.int .i64 0, .int .i64 0], none⟩, ⟨none, .store 2 (.t 0) (.t 1), none⟩])
 (.seq (.reg [⟨none, .mov (.v 0), none⟩, ⟨none, .nilck (.t 0), none⟩, ⟨none, .faddr 2 (.t 0), none⟩, ⟨none, .load false 1 (.t 0), none⟩, ⟨none, .bin .eql 3 (.t 0) (.c (.int .i64 0)), none⟩, ⟨none, .mov (.t 0), none⟩, ⟨none, .load true 2 (.v 6), some (0, true)⟩, ⟨none, .load true 2 (.v 5), some (1, true)⟩, ⟨none, .bin .neq 55 (.t 1) (.t 0), some (2, true)⟩, ⟨some 7, .pick (.t 3) (.t 0) (.c (.bool false)), none⟩])
 (.cond (.v 7) (.reg [⟨none, .mov (.v 0), none⟩, ⟨none, .faddr 4 (.v 4), none⟩, ⟨none, .load false 1 (.t 0), none⟩, ⟨none, .faddr 5 (.v 4), none⟩, ⟨none, .load false 1 (.t 0), none⟩, ⟨none, .call (.c (.fn 98 [])) [.t 4, .c (.int .i64 24), .t 2, .t 0], none⟩])
 .skip)))), []⟩
theorem Tryz.fok102 : FnOK Tryz.prog Tryz.tys 102 Tryz.c102 := fn_of (vt := Tryz.c102.vt) Tryz.func102 (by kernel_rfl) (by kernel_rfl)
/- whetstone/whetstoneref08.goesOn -/
noncomputable def Tryz.c103 : AFn := ⟨[0, 2], (.seq (.reg [⟨some 1, .mov (.c (.bool false)), none⟩])
 (.seq (.reg [⟨none, .mov (.v 0), none⟩, ⟨none, .bin .geq 5 (.t 0) (.c (.int .u8 97)), none⟩, ⟨none, .mov (.t 0), none⟩, ⟨none, .mov (.v 0), some (0, true)⟩, ⟨none, .bin .leq 5 (.t 0) (.c (.int .u8 122)), some (1, true)⟩, ⟨none, .pick (.t 2) (.t 0) (.c (.bool false)), none⟩, ⟨none, .mov (.t 0), none⟩, ⟨none, .mov (.v 0), some (0, false)⟩, ⟨none, .bin .geq 5 (.t 0) (.c (.int .u8 48)), some (1, false)⟩, ⟨none, .mov (.t 0), some (2, false)⟩, ⟨none, .mov (.v 0), some (0, true)⟩, ⟨none, .bin .leq 5 (.t 0) (.c (.int .u8 57)), some (1, true)⟩, ⟨none, .pick (.t 2) (.t 0) (.c (.bool false)), some (5, false)⟩, ⟨none, .pick (.t 6) (.c (.bool true)) (.t 0), none⟩, ⟨none, .mov (.t 0), none⟩, ⟨none, .mov (.v 0), some (0, false)⟩, ⟨none, .bin .eql 5 (.t 0) (.c (.int .u8 95)), some (1, false)⟩, ⟨none, .pick (.t 2) (.c (.bool true)) (.t 0), none⟩, ⟨some 1, .mov (.t 0), none⟩])
 .ret)), [.tmp 1]⟩
theorem Tryz.fok103 : FnOK Tryz.prog Tryz.tys 103 Tryz.c103 := fn_of (vt := Tryz.c103.vt) Tryz.func103 (by kernel_rfl) (by kernel_rfl)
/- whetstone/whetstoneref08.IsWord -/
noncomputable def Tryz.c104k0 : ACode := (.seq (.seq (.reg [⟨none, .mov (.v 3), none⟩, ⟨none, .mov (.v 2), none⟩, ⟨none, .lenV (.t 0), none⟩, ⟨some 4, .bin .lss 3 (.t 2) (.t 0), none⟩])
 (.cond (.v 4) .skip
 (.exit 0)))
 (.seq (.block 1 (.seq (.reg [⟨none, .mov (.v 2), none⟩, ⟨none, .mov (.v 3), none⟩, ⟨none, .iaddr 1 (.t 1) (.t 0), none⟩, ⟨none, .load false 1 (.t 0), none⟩, ⟨none, .mov (.v 0), none⟩, ⟨some 5, .bin .eql 9 (.t 1) (.t 0), none⟩])
 (.cond (.v 5) (.seq (.reg [⟨some 1, .mov (.c (.bool true)), none⟩])
 .ret)
 .skip)))
 (.reg [⟨none, .mov (.v 3), none⟩, ⟨none, .bin .add 3 (.t 0) (.c (.int .i64 1)), none⟩, ⟨some 3, .mov (.t 0), none⟩])))
noncomputable def Tryz.c104 : AFn := ⟨[0, 2, 3, 4, 9, 17], (.seq (.reg [⟨some 1, .mov (.c (.bool false)), none⟩])
 (.seq (.reg [⟨none, .call (.c (.fn 137 [])) [], none⟩, ⟨some 2, .mov (.t 0), none⟩])
 (.seq (.seq (.reg [⟨some 3, .mov (.c (.int .i64 0)), none⟩])
 (.block 0 (.loop Tryz.c104k0)))
 (.seq (.reg [⟨some 1, .mov (.c (.bool false)), none⟩])
 .ret)))), [.tmp 1]⟩
theorem Tryz.fok104 : FnOK Tryz.prog Tryz.tys 104 Tryz.c104 := fn_of (vt := Tryz.c104.vt) Tryz.func104 (by kernel_rfl) (by kernel_rfl)
/- whetstone/whetstoneref08.size -/
noncomputable def Tryz.c105k0 : ACode := (.seq (.seq (.reg [⟨none, .mov (.v 5), none⟩, ⟨none, .mov (.v 4), none⟩, ⟨none, .lenV (.t 0), none⟩, ⟨some 8, .bin .lss 3 (.t 2) (.t 0), none⟩])
 (.cond (.v 8) .skip
 (.exit 0)))
 (.seq (.block 1 (.seq (.draw [⟨none, .mov (.v 1), none⟩, ⟨none, .bin .add 3 (.t 0) (.c (.int .i64 1)), none⟩, ⟨none, .mov (.v 0), none⟩, ⟨none, .lenV (.t 0), none⟩, ⟨none, .bin .lss 3 (.t 2) (.t 0), none⟩, ⟨none, .mov (.t 0), none⟩, ⟨none, .mov (.v 2), some (0, true)⟩, ⟨none, .mov (.v 1), some (1, true)⟩, ⟨none, .bin .add 3 (.t 0) (.c (.int .i64 1)), some (2, true)⟩, ⟨none, .iaddr 1 (.t 2) (.t 0), some (3, true)⟩, ⟨none, .load false 1 (.t 0), some (4, true)⟩, ⟨none, .bin .eql 3 (.t 0) (.c (.int .i64 0)), some (5, true)⟩, ⟨none, .pick (.t 6) (.t 0) (.c (.bool false)), none⟩, ⟨none, .mov (.t 0), none⟩, ⟨none, .mov (.v 0), some (0, true)⟩, ⟨none, .mov (.v 1), some (1, true)⟩, ⟨none, .mov (.v 1), some (2, true)⟩, ⟨none, .bin .add 3 (.t 0) (.c (.int .i64 2)), some (3, true)⟩, ⟨none, .sliceV 1 (.t 3) (some (.t 2)) (some (.t 0)), some (4, true)⟩, ⟨none, .b2s (.t 0), some (5, true)⟩, ⟨none, .mov (.v 4), some (6, true)⟩, ⟨none, .mov (.v 5), some (7, true)⟩, ⟨none, .iaddr 1 (.t 1) (.t 0), some (8, true)⟩, ⟨none, .load false 1 (.t 0), some (9, true)⟩, ⟨none, .bin .eql 9 (.t 4) (.t 0), some (10, true)⟩, ⟨some 9, .pick (.t 11) (.t 0) (.c (.bool false)), none⟩] [0, 1, 0, 4, 15, 31, 63, 63, 191, 511, 1023, 2047, 4095, 8191, 16383, 16383, 16383, 81919, 262143, 524287, 16383, 16383, 3162111, 7356415, 16777215, 33554431] [])
 (.cond (.v 9) (.seq (.reg [⟨some 3, .mov (.c (.int .i64 2)), none⟩])
 .ret)
 .skip)))
 (.reg [⟨none, .mov (.v 5), none⟩, ⟨none, .bin .add 3 (.t 0) (.c (.int .i64 1)), none⟩, ⟨some 5, .mov (.t 0), none⟩])))
noncomputable def Tryz.c105k1 : ACode := (.seq (.seq (.reg [⟨none, .mov (.v 7), none⟩, ⟨none, .mov (.v 6), none⟩, ⟨none, .lenS (.t 0), none⟩, ⟨some 10, .bin .lss 3 (.t 2) (.t 0), none⟩])
 (.cond (.v 10) .skip
 (.exit 2)))
 (.seq (.block 3 (.seq (.draw [⟨none, .mov (.v 0), none⟩, ⟨none, .mov (.v 1), none⟩, ⟨none, .iaddr 1 (.t 1) (.t 0), none⟩, ⟨none, .load false 1 (.t 0), none⟩, ⟨none, .mov (.v 6), none⟩, ⟨none, .mov (.v 7), none⟩, ⟨none, .idx (.t 1) (.t 0), none⟩, ⟨some 11, .bin .eql 5 (.t 3) (.t 0), none⟩] [0, 0, 3, 7, 0, 0, 48, 127] [])
 (.cond (.v 11) (.seq (.reg [⟨some 3, .mov (.c (.int .i64 1)), none⟩])
 .ret)
 .skip)))
 (.reg [⟨none, .mov (.v 7), none⟩, ⟨none, .bin .add 3 (.t 0) (.c (.int .i64 1)), none⟩, ⟨some 7, .mov (.t 0), none⟩])))
noncomputable def Tryz.c105 : AFn := ⟨[0, 1, 2, 6, 7, 8, 9, 10, 15, 43, 47, 57], (.seq (.reg [⟨some 3, .mov (.c (.int .i64 0)), none⟩])
 (.seq (.reg [⟨none, .mkslc 9 1 4 [.str ⟨#[]⟩] [(0, .c (.str ⟨#[45, 62]⟩)), (1, .c (.str ⟨#[60, 61]⟩)), (2, .c (.str ⟨#[62, 61]⟩)), (3, .c (.str ⟨#[33, 61]⟩))], none⟩, ⟨some 4, .mov (.t 0), none⟩])
 (.seq (.seq (.reg [⟨some 5, .mov (.c (.int .i64 0)), none⟩])
 (.block 0 (.loop Tryz.c105k0)))
 (.seq (.reg [⟨some 6, .mov (.c (.str ⟨#[40, 41, 123, 125, 44, 58, 61, 59, 43, 45, 42, 47, 37, 60, 62]⟩)), none⟩])
 (.seq (.seq (.reg [⟨some 7, .mov (.c (.int .i64 0)), none⟩])
 (.block 2 (.loop Tryz.c105k1)))
 (.seq (.reg [⟨some 3, .mov (.c (.int .i64 0)), none⟩])
 .ret)))))), [.tmp 3]⟩
theorem Tryz.fok105 : FnOK Tryz.prog Tryz.tys 105 Tryz.c105 := fn_of (vt := Tryz.c105.vt) Tryz.func105 (by kernel_rfl) (by kernel_rfl)
/- (*whetstone/whetstoneref09.Reader).is -/
noncomputable def Tryz.c106 : AFn := ⟨[0, 1, 4, 5], (.seq (.reg [⟨some 2, .mov (.c (.bool false)), none⟩])
 (.seq (.reg [⟨none, .mov (.v 0), none⟩, ⟨none, .call (.c (.fn 72 [])) [.t 0], none⟩, ⟨some 3, .alloc 185 [.int .i64 0, .str ⟨#[]⟩, .int .i64 0, .int .i64 0], none⟩, ⟨none, .store 4 (.t 0) (.t 1), none⟩])
 (.seq (.reg [⟨none, .mov (.v 0), none⟩, ⟨none, .nilck (.t 0), none⟩, ⟨none, .faddr 3 (.t 0), none⟩, ⟨none, .load false 1 (.t 0), none⟩, ⟨none, .bin .eql 3 (.t 0) (.c (.int .i64 0)), none⟩, ⟨none, .mov (.t 0), none⟩, ⟨none, .faddr 0 (.v 3), some (0, true)⟩, ⟨none, .load false 1 (.t 0), some (1, true)⟩, ⟨none, .bin .eql 3 (.t 0) (.c (.int .i64 2)), some (2, true)⟩, ⟨none, .mov (.t 0), some (3, true)⟩, ⟨none, .faddr 0 (.v 3), some (0, false)⟩, ⟨none, .load false 1 (.t 0), some (1, false)⟩, ⟨none, .bin .eql 3 (.t 0) (.c (.int .i64 4)), some (2, false)⟩, ⟨none, .pick (.t 3) (.c (.bool true)) (.t 0), some (7, true)⟩, ⟨none, .pick (.t 8) (.t 0) (.c (.bool false)), none⟩, ⟨none, .mov (.t 0), none⟩, ⟨none, .faddr 1 (.v 3), some (0, true)⟩, ⟨none, .load false 1 (.t 0), some (1, true)⟩, ⟨none, .mov (.v 1), some (2, true)⟩, ⟨none, .bin .eql 9 (.t 1) (.t 0), some (3, true)⟩, ⟨none, .pick (.t 4) (.t 0) (.c (.bool false)), none⟩, ⟨some 2, .mov (.t 0), none⟩])
 .ret))), [.tmp 2]⟩
theorem Tryz.fok106 : FnOK Tryz.prog Tryz.tys 106 Tryz.c106 := fn_of (vt := Tryz.c106.vt) Tryz.func106 (by kernel_rfl) (by kernel_rfl)
/- (*whetstone/whetstoneref09.Reader).name -/
noncomputable def Tryz.c107 : AFn := ⟨[0, 2, 3, 15, 22], (.seq (.reg [⟨some 1, .alloc 185 [.int .i64 0, .str ⟨#[]⟩, .int .i64 0, .int .i64 0], none⟩])
 (.seq (.reg [⟨none, .mov (.v 0), none⟩, ⟨none, .call (.c (.fn 72 [])) [.t 0], none⟩, ⟨some 2, .alloc 185 [.int .i64 0, .str ⟨#[]⟩, .int .i64 0, .int .i64 0], none⟩, ⟨none, .store 4 (.t 0) (.t 1), none⟩])
 (.seq (.seq (.reg [⟨none, .mov (.v 0), none⟩, ⟨none, .nilck (.t 0), none⟩, ⟨none, .faddr 3 (.t 0), none⟩, ⟨none, .load false 1 (.t 0), none⟩, ⟨none, .bin .eql 3 (.t 0) (.c (.int .i64 0)), none⟩, ⟨none, .mov (.t 0), none⟩, ⟨none, .faddr 0 (.v 2), some (0, true)⟩, ⟨none, .load false 1 (.t 0), some (1, true)⟩, ⟨none, .bin .neq 3 (.t 0) (.c (.int .i64 1)), some (2, true)⟩, ⟨some 3, .pick (.t 3) (.t 0) (.c (.bool false)), none⟩])
 (.cond (.v 3) (.reg [⟨none, .mov (.v 0), none⟩, ⟨none, .call (.c (.fn 108 [])) [.t 0], none⟩])
 .skip))
 (.seq (.seq (.reg [⟨none, .mov (.v 0), none⟩, ⟨none, .nilck (.t 0), none⟩, ⟨none, .faddr 3 (.t 0), none⟩, ⟨none, .load false 1 (.t 0), none⟩, ⟨some 4, .bin .eql 3 (.t 0) (.c (.int .i64 0)), none⟩])
 (.cond (.v 4) (.reg [⟨none, .mov (.v 0), none⟩, ⟨none, .nilck (.t 0), none⟩, ⟨none, .faddr 1 (.t 0), none⟩, ⟨none, .load false 1 (.t 0), none⟩, ⟨none, .bin .add 3 (.t 0) (.c (.int .i64 1)), none⟩, ⟨none, .nilck (.t 4), none⟩, ⟨none, .faddr 1 (.t 0), none⟩, ⟨none, .store 1 (.t 0) (.t 2), none⟩])
 .skip))
 (.seq (.reg [⟨none, .load true 4 (.v 2), none⟩, ⟨none, .store 4 (.v 1) (.t 0), none⟩])
 .ret))))), [.cell 1 true 4]⟩
theorem Tryz.fok107 : FnOK Tryz.prog Tryz.tys 107 Tryz.c107 := fn_of (vt := Tryz.c107.vt) Tryz.func107 (by kernel_rfl) (by kernel_rfl)
/- (*whetstone/whetstoneref09.Reader).miss -/
noncomputable def Tryz.c108 : AFn := ⟨[0, 5], (.seq (.reg [⟨none, .mov (.v 0), none⟩, ⟨none, .call (.c (.fn 72 [])) [.t 0], none⟩, ⟨none, .fld 0 1 false (.t 0), none⟩, ⟨some 1, .bin .eql 3 (.t 0) (.c (.int .i64 0)), none⟩])
 (.cond (.v 1) (.reg [⟨none, .mov (.v 0), none⟩, ⟨none, .mov (.v 0), none⟩, ⟨none, .call (.c (.fn 72 [])) [.t 0], none⟩, ⟨none, .call (.c (.fn 73 [])) [.t 2, .c (.int .i64 11), .t 0], none⟩])
 (.reg [⟨none, .mov (.v 0), none⟩, ⟨none, .mov (.v 0), none⟩, ⟨none, .call (.c (.fn 72 [])) [.t 0], none⟩, ⟨none, .call (.c (.fn 73 [])) [.t 2, .c (.int .i64 21), .t 0], none⟩]))), []⟩
theorem Tryz.fok108 : FnOK Tryz.prog Tryz.tys 108 Tryz.c108 := fn_of (vt := Tryz.c108.vt) Tryz.func108 (by kernel_rfl) (by kernel_rfl)
/- (*whetstone/whetstoneref09.Reader).typ -/
noncomputable def Tryz.c109 : AFn := ⟨[0, 2, 3, 4, 11, 15, 19, 27], (.seq (.reg [⟨some 1, .alloc 47 [.int .i64 0, .int .i64 0, .nilSlc, .int .i64 0, .int .i64 0], none⟩])
 (.seq (.reg [⟨none, .mov (.v 0), none⟩, ⟨none, .call (.c (.fn 72 [])) [.t 0], none⟩, ⟨none, .fld 2 1 false (.t 0), none⟩, ⟨none, .build [.int .i64 0, .int .i64 0, .nilSlc, .int .i64 0, .int .i64 0] [(3, 1, .t 0)], none⟩, ⟨some 2, .alloc 47 [.int .i64 0, .int .i64 0, .nilSlc, .int .i64 0, .int .i64 0], none⟩, ⟨none, .store 5 (.t 0) (.t 1), none⟩])
 (.seq (.block 0 (.seq (.reg [⟨none, .mov (.v 0), none⟩, ⟨none, .call (.c (.fn 67 [])) [.t 0, .c (.str ⟨#[105, 110, 116]⟩)], none⟩, ⟨some 4, .mov (.t 0), none⟩])
 (.cond (.v 4) (.reg [⟨none, .faddr 0 (.v 2), none⟩, ⟨none, .store 1 (.t 0) (.c (.int .i64 1)), none⟩])
 (.seq (.reg [⟨none, .mov (.v 0), none⟩, ⟨none, .call (.c (.fn 67 [])) [.t 0, .c (.str ⟨#[98, 111, 111, 108]⟩)], none⟩, ⟨some 5, .mov (.t 0), none⟩])
 (.cond (.v 5) (.reg [⟨none, .faddr 0 (.v 2), none⟩, ⟨none, .store 1 (.t 0) (.c (.int .i64 2)), none⟩])
 (.seq (.reg [⟨none, .mov (.v 0), none⟩, ⟨none, .call (.c (.fn 67 [])) [.t 0, .c (.str ⟨#[97, 114, 114]⟩)], none⟩, ⟨some 6, .mov (.t 0), none⟩])
 (.cond (.v 6) (.seq (.reg [⟨none, .faddr 0 (.v 2), none⟩, ⟨none, .store 1 (.t 0) (.c (.int .i64 3)), none⟩])
 (.reg [⟨none, .mov (.v 0), none⟩, ⟨none, .call (.c (.fn 138 [])) [.t 0], none⟩, ⟨none, .faddr 1 (.v 2), none⟩, ⟨none, .store 1 (.t 0) (.t 1), none⟩]))
 (.reg [⟨none, .mov (.v 0), none⟩, ⟨none, .call (.c (.fn 108 [])) [.t 0], none⟩]))))))))
 (.seq (.seq (.reg [⟨none, .mov (.v 0), none⟩, ⟨some 7, .call (.c (.fn 67 [])) [.t 0, .c (.str ⟨#[123]⟩)], none⟩])
 (.cond (.v 7) (.seq (.reg [⟨none, .mov (.v 0), none⟩, ⟨none, .call (.c (.fn 71 [])) [.t 0], none⟩, ⟨some 3, .alloc 49 [.int .i64 0, .str ⟨#[]⟩, .str ⟨#[]⟩, .nilSlc, .int .i64 0, .int .i64 0], none⟩, ⟨none, .store 6 (.t 0) (.t 1), none⟩])
 (.seq (.reg [⟨none, .faddr 2 (.v 2), none⟩, ⟨none, .load false 1 (.t 0), none⟩, ⟨none, .load true 6 (.v 3), none⟩, ⟨none, .mkslc 49 6 1 [.int .i64 0, .str ⟨#[]⟩, .str ⟨#[]⟩, .nilSlc, .int .i64 0, .int .i64 0] [(0, .t 0)], none⟩, ⟨none, .append 49 6 80 (.t 2) (.t 0), none⟩, ⟨none, .faddr 2 (.v 2), none⟩, ⟨none, .store 1 (.t 0) (.t 1), none⟩])
 (.reg [⟨none, .mov (.v 0), none⟩, ⟨none, .call (.c (.fn 69 [])) [.t 0, .c (.str ⟨#[125]⟩)], none⟩])))
 .skip))
 (.seq (.reg [⟨none, .mov (.v 0), none⟩, ⟨none, .call (.c (.fn 139 [])) [.t 0], none⟩, ⟨none, .faddr 4 (.v 2), none⟩, ⟨none, .store 1 (.t 0) (.t 1), none⟩])
 (.seq (.reg [⟨none, .load true 5 (.v 2), none⟩, ⟨none, .store 5 (.v 1) (.t 0), none⟩])
 .ret)))))), [.cell 1 true 5]⟩
theorem Tryz.fok109 : FnOK Tryz.prog Tryz.tys 109 Tryz.c109 := fn_of (vt := Tryz.c109.vt) Tryz.func109 (by kernel_rfl) (by kernel_rfl)
/- (*whetstone/whetstoneref09.Reader).deeper -/
noncomputable def Tryz.c110 : AFn := ⟨[0, 13], (.seq (.reg [⟨none, .mov (.v 0), none⟩, ⟨none, .nilck (.t 0), none⟩, ⟨none, .faddr 2 (.t 0), none⟩, ⟨none, .load false 1 (.t 0), none⟩, ⟨none, .bin .add 3 (.t 0) (.c (.int .i64 1)), none⟩, ⟨none, .nilck (.t 4), none⟩, ⟨none, .faddr 2 (.t 0), none⟩, ⟨none, .store 1 (.t 0) (.t 2), none⟩])
 (.seq (.reg [⟨none, .mov (.v 0), none⟩, ⟨none, .nilck (.t 0), none⟩, ⟨none, .faddr 2 (.t 0), none⟩, ⟨none, .load false 1 (.t 0), none⟩, ⟨some 1, .bin .gtr 3 (.t 0) (.c (.int .i64 60)), none⟩])
 (.cond (.v 1) (.reg [⟨none, .mov (.v 0), none⟩, ⟨none, .mov (.v 0), none⟩, ⟨none, .call (.c (.fn 72 [])) [.t 0], none⟩, ⟨none, .call (.c (.fn 73 [])) [.t 2, .c (.int .i64 13), .t 0], none⟩])
 .skip))), []⟩
theorem Tryz.fok110 : FnOK Tryz.prog Tryz.tys 110 Tryz.c110 := fn_of (vt := Tryz.c110.vt) Tryz.func110 (by kernel_rfl) (by kernel_rfl)
/- (*whetstone/whetstoneref09.Reader).row -/
noncomputable def Tryz.c111k0 : ACode := (.seq (.seq (.reg [⟨none, .mov (.v 5), none⟩, ⟨none, .bin .neq 3 (.t 0) (.c (.int .i64 0)), none⟩, ⟨none, .mov (.t 0), none⟩, ⟨none, .mov (.v 0), some (0, true)⟩, ⟨none, .nilck (.t 0), some (1, true)⟩, ⟨none, .faddr 3 (.t 0), some (2, true)⟩, ⟨none, .load false 1 (.t 0), some (3, true)⟩, ⟨none, .bin .eql 3 (.t 0) (.c (.int .i64 0)), some (4, true)⟩, ⟨some 8, .pick (.t 5) (.t 0) (.c (.bool false)), none⟩])
 (.cond (.v 8) .skip
 (.exit 0)))
 (.seq (.block 1 (.seq (.reg [⟨none, .mov (.v 0), none⟩, ⟨none, .nilck (.t 0), none⟩, ⟨none, .faddr 1 (.t 0), none⟩, ⟨none, .load false 1 (.t 0), none⟩, ⟨none, .bin .add 3 (.t 0) (.c (.int .i64 1)), none⟩, ⟨none, .nilck (.t 4), none⟩, ⟨none, .faddr 1 (.t 0), none⟩, ⟨none, .store 1 (.t 0) (.t 2), none⟩])
 (.seq (.reg [⟨none, .mov (.v 0), none⟩, ⟨none, .mov (.v 1), none⟩, ⟨none, .bin .add 3 (.t 0) (.c (.int .i64 1)), none⟩, ⟨none, .call (.c (.fn 111 [])) [.t 2, .t 0], none⟩, ⟨some 6, .alloc 49 [.int .i64 0, .str ⟨#[]⟩, .str ⟨#[]⟩, .nilSlc, .int .i64 0, .int .i64 0], none⟩, ⟨none, .store 6 (.t 0) (.t 1), none⟩])
 (.seq (.reg [⟨none, .mov (.v 0), none⟩, ⟨none, .mov (.v 5), none⟩, ⟨none, .mov (.v 3), none⟩, ⟨none, .load true 6 (.v 4), none⟩, ⟨none, .load true 6 (.v 6), none⟩, ⟨none, .mkslc 49 6 2 [.int .i64 0, .str ⟨#[]⟩, .str ⟨#[]⟩, .nilSlc, .int .i64 0, .int .i64 0] [(0, .t 1), (1, .t 0)], none⟩, ⟨none, .call (.c (.fn 112 [])) [.t 5, .t 4, .t 3, .t 0], none⟩, ⟨none, .store 6 (.v 4) (.t 0), none⟩])
 (.seq (.reg [⟨none, .mov (.v 1), none⟩, ⟨some 9, .bin .eql 3 (.t 0) (.c (.int .i64 2)), none⟩])
 (.cond (.v 9) (.seq (.reg [⟨none, .load true 6 (.v 4), none⟩, ⟨none, .store 6 (.v 2) (.t 0), none⟩])
 .ret)
 .skip))))))
 (.reg [⟨none, .mov (.v 0), none⟩, ⟨none, .mov (.v 1), none⟩, ⟨none, .call (.c (.fn 141 [])) [.t 1, .t 0], none⟩, ⟨some 5, .mov (.t 0), none⟩])))
noncomputable def Tryz.c111 : AFn := ⟨[0, 1, 4, 5, 6, 7, 8, 10, 31, 54], (.seq (.reg [⟨some 2, .alloc 49 [.int .i64 0, .str ⟨#[]⟩, .str ⟨#[]⟩, .nilSlc, .int .i64 0, .int .i64 0], none⟩])
 (.seq (.seq (.reg [⟨none, .mov (.v 1), none⟩, ⟨some 7, .bin .eql 3 (.t 0) (.c (.int .i64 5)), none⟩])
 (.cond (.v 7) (.seq (.reg [⟨none, .mov (.v 0), none⟩, ⟨none, .call (.c (.fn 140 [])) [.t 0], none⟩, ⟨none, .store 6 (.v 2) (.t 0), none⟩])
 .ret)
 .skip))
 (.seq (.reg [⟨none, .mov (.v 0), none⟩, ⟨none, .call (.c (.fn 72 [])) [.t 0], none⟩, ⟨none, .fld 2 1 false (.t 0), none⟩, ⟨some 3, .mov (.t 0), none⟩])
 (.seq (.reg [⟨none, .mov (.v 0), none⟩, ⟨none, .mov (.v 1), none⟩, ⟨none, .bin .add 3 (.t 0) (.c (.int .i64 1)), none⟩, ⟨none, .call (.c (.fn 111 [])) [.t 2, .t 0], none⟩, ⟨some 4, .alloc 49 [.int .i64 0, .str ⟨#[]⟩, .str ⟨#[]⟩, .nilSlc, .int .i64 0, .int .i64 0], none⟩, ⟨none, .store 6 (.t 0) (.t 1), none⟩])
 (.seq (.seq (.reg [⟨none, .mov (.v 0), none⟩, ⟨none, .mov (.v 1), none⟩, ⟨none, .call (.c (.fn 141 [])) [.t 1, .t 0], none⟩, ⟨some 5, .mov (.t 0), none⟩])
 (.block 0 (.loop Tryz.c111k0)))
 (.seq (.reg [⟨none, .load true 6 (.v 4), none⟩, ⟨none, .store 6 (.v 2) (.t 0), none⟩])
 .ret)))))), [.cell 2 true 6]⟩
theorem Tryz.fok111 : FnOK Tryz.prog Tryz.tys 111 Tryz.c111 := fn_of (vt := Tryz.c111.vt) Tryz.func111 (by kernel_rfl) (by kernel_rfl)
/- (*whetstone/whetstoneref09.Reader).made -/
noncomputable def Tryz.c112 : AFn := ⟨[0, 1, 2, 3, 8], (.seq (.reg [⟨some 4, .alloc 49 [.int .i64 0, .str ⟨#[]⟩, .str ⟨#[]⟩, .nilSlc, .int .i64 0, .int .i64 0], none⟩])
 (.seq (.reg [⟨none, .mov (.v 1), none⟩, ⟨none, .mov (.v 3), none⟩, ⟨none, .mov (.v 2), none⟩, ⟨none, .mov (.v 0), none⟩, ⟨none, .call (.c (.fn 139 [])) [.t 0], none⟩, ⟨none, .build [.int .i64 0, .str ⟨#[]⟩, .str ⟨#[]⟩, .nilSlc, .int .i64 0, .int .i64 0] [(0, 1, .t 4), (3, 1, .t 3), (4, 1, .t 2), (5, 1, .t 0)], none⟩, ⟨none, .store 6 (.v 4) (.t 0), none⟩])
 .ret)), [.cell 4 true 6]⟩
theorem Tryz.fok112 : FnOK Tryz.prog Tryz.tys 112 Tryz.c112 := fn_of (vt := Tryz.c112.vt) Tryz.func112 (by kernel_rfl) (by kernel_rfl)
/- (*whetstone/base.checker).find -/
noncomputable def Tryz.c113k0 : ACode := (.seq (.seq (.reg [⟨none, .mov (.v 4), none⟩, ⟨some 5, .bin .geq 3 (.t 0) (.c (.int .i64 0)), none⟩])
 (.cond (.v 5) .skip
 (.exit 0)))
 (.seq (.block 1 (.seq (.reg [⟨none, .mov (.v 0), none⟩, ⟨none, .nilck (.t 0), none⟩, ⟨none, .faddr 1 (.t 0), none⟩, ⟨none, .load false 1 (.t 0), none⟩, ⟨none, .mov (.v 4), none⟩, ⟨none, .iaddr 3 (.t 1) (.t 0), none⟩, ⟨none, .faddr 0 (.t 0), none⟩, ⟨none, .load false 1 (.t 0), none⟩, ⟨none, .mov (.v 1), none⟩, ⟨some 6, .bin .eql 9 (.t 1) (.t 0), none⟩])
 (.cond (.v 6) (.seq (.reg [⟨none, .mov (.v 0), none⟩, ⟨none, .nilck (.t 0), none⟩, ⟨none, .faddr 1 (.t 0), none⟩, ⟨none, .load false 1 (.t 0), none⟩, ⟨none, .mov (.v 4), none⟩, ⟨none, .iaddr 3 (.t 1) (.t 0), none⟩, ⟨none, .faddr 1 (.t 0), none⟩, ⟨none, .load true 2 (.t 0), none⟩, ⟨none, .store 2 (.v 2) (.t 0), none⟩, ⟨some 3, .mov (.c (.bool true)), none⟩])
 .ret)
 .skip)))
 (.reg [⟨none, .mov (.v 4), none⟩, ⟨none, .bin .sub 3 (.t 0) (.c (.int .i64 1)), none⟩, ⟨some 4, .mov (.t 0), none⟩])))
noncomputable def Tryz.c113 : AFn := ⟨[0, 1, 4, 5, 6, 14, 26], (.seq (.reg [⟨some 2, .alloc 53 [.int .i64 0, .int .i64 0], none⟩, ⟨some 3, .mov (.c (.bool false)), none⟩])
 (.seq (.seq (.reg [⟨none, .mov (.v 0), none⟩, ⟨none, .nilck (.t 0), none⟩, ⟨none, .faddr 1 (.t 0), none⟩, ⟨none, .load false 1 (.t 0), none⟩, ⟨none, .lenV (.t 0), none⟩, ⟨none, .bin .sub 3 (.t 0) (.c (.int .i64 1)), none⟩, ⟨some 4, .mov (.t 0), none⟩])
 (.block 0 (.loop Tryz.c113k0)))
 (.seq (.reg [⟨none, .build [.int .i64 0, .int .i64 0] [], none⟩, ⟨none, .store 2 (.v 2) (.t 0), none⟩, ⟨some 3, .mov (.c (.bool false)), none⟩])
 .ret))), [.cell 2 true 2, .tmp 3]⟩
theorem Tryz.fok113 : FnOK Tryz.prog Tryz.tys 113 Tryz.c113 := fn_of (vt := Tryz.c113.vt) Tryz.func113 (by kernel_rfl) (by kernel_rfl)
/- (*whetstone/base.checker).kind -/
noncomputable def Tryz.c114 : AFn := ⟨[0, 1, 3, 4, 5, 6, 7, 12, 13, 16, 20, 30, 42, 47, 60, 71, 81, 90, 100], (.seq (.reg [⟨some 2, .box 40 (.v 1), none⟩, ⟨some 3, .alloc 53 [.int .i64 0, .int .i64 0], none⟩])
 (.seq (.reg [⟨none, .mov (.v 0), none⟩, ⟨none, .load true 7 (.v 2), none⟩, ⟨none, .call (.c (.fn 142 [])) [.t 1, .t 0], none⟩])
 (.seq (.seq (.reg [⟨none, .faddr 0 (.v 2), none⟩, ⟨some 7, .load false 1 (.t 0), none⟩])
 (.block 0 (.seq (.reg [⟨none, .bin .eql 3 (.v 7) (.c (.int .i64 1)), none⟩, ⟨some 8, .mov (.t 0), none⟩])
 (.cond (.v 8) (.seq (.reg [⟨none, .call (.c (.fn 143 [])) [], none⟩, ⟨none, .store 2 (.v 3) (.t 0), none⟩])
 .ret)
 (.seq (.seq (.reg [⟨none, .bin .eql 3 (.v 7) (.c (.int .i64 2)), none⟩, ⟨some 9, .mov (.t 0), none⟩])
 (.cond (.v 9) .skip
 (.reg [⟨none, .bin .eql 3 (.v 7) (.c (.int .i64 3)), none⟩, ⟨some 9, .mov (.t 0), none⟩])))
 (.cond (.v 9) (.seq (.reg [⟨none, .call (.c (.fn 78 [])) [], none⟩, ⟨none, .store 2 (.v 3) (.t 0), none⟩])
 .ret)
 (.seq (.reg [⟨none, .bin .eql 3 (.v 7) (.c (.int .i64 4)), none⟩, ⟨some 10, .mov (.t 0), none⟩])
 (.cond (.v 10) (.seq (.reg [⟨none, .mov (.v 0), none⟩, ⟨none, .faddr 1 (.v 2), none⟩, ⟨none, .load false 1 (.t 0), none⟩, ⟨none, .call (.c (.fn 113 [])) [.t 2, .t 0], none⟩, ⟨none, .mov (.t 0), none⟩, ⟨none, .ext (.t 0) 0, none⟩, ⟨none, .ext (.t 1) 1, none⟩, ⟨some 4, .alloc 53 [.int .i64 0, .int .i64 0], none⟩, ⟨none, .store 2 (.t 0) (.t 2), none⟩, ⟨some 5, .mov (.t 2), none⟩])
 (.seq (.seq (.reg [⟨none, .mov (.v 5), none⟩, ⟨some 11, .un .not (.t 0), none⟩])
 (.cond (.v 11) (.reg [⟨none, .faddr 5 (.v 2), none⟩, ⟨none, .load true 2 (.t 0), none⟩, ⟨none, .call (.c (.fn 74 [])) [.t 0, .c (.int .i64 22)], none⟩])
 .skip))
 (.seq (.seq (.reg [⟨none, .mov (.v 0), none⟩, ⟨none, .nilck (.t 0), none⟩, ⟨none, .faddr 2 (.t 0), none⟩, ⟨none, .load false 1 (.t 0), none⟩, ⟨none, .mov (.t 0), none⟩, ⟨none, .faddr 0 (.v 4), some (0, true)⟩, ⟨none, .load false 1 (.t 0), some (1, true)⟩, ⟨none, .bin .eql 3 (.t 0) (.c (.int .i64 3)), some (2, true)⟩, ⟨some 12, .pick (.t 3) (.t 0) (.c (.bool false)), none⟩])
 (.cond (.v 12) (.reg [⟨none, .faddr 5 (.v 2), none⟩, ⟨none, .load true 2 (.t 0), none⟩, ⟨none, .call (.c (.fn 74 [])) [.t 0, .c (.int .i64 26)], none⟩])
 .skip))
 (.seq (.reg [⟨none, .load true 2 (.v 4), none⟩, ⟨none, .store 2 (.v 3) (.t 0), none⟩])
 .ret))))
 (.seq (.seq (.reg [⟨none, .bin .eql 3 (.v 7) (.c (.int .i64 6)), none⟩, ⟨some 13, .mov (.t 0), none⟩])
 (.cond (.v 13) .skip
 (.seq (.reg [⟨none, .bin .eql 3 (.v 7) (.c (.int .i64 8)), none⟩, ⟨some 13, .mov (.t 0), none⟩])
 (.cond (.v 13) .skip
 (.seq (.reg [⟨none, .bin .eql 3 (.v 7) (.c (.int .i64 9)), none⟩, ⟨some 13, .mov (.t 0), none⟩])
 (.cond (.v 13) .skip
 (.seq (.reg [⟨none, .bin .eql 3 (.v 7) (.c (.int .i64 10)), none⟩, ⟨some 13, .mov (.t 0), none⟩])
 (.cond (.v 13) .skip
 (.seq (.reg [⟨none, .bin .eql 3 (.v 7) (.c (.int .i64 11)), none⟩, ⟨some 13, .mov (.t 0), none⟩])
 (.cond (.v 13) .skip
 (.reg [⟨none, .bin .eql 3 (.v 7) (.c (.int .i64 12)), none⟩, ⟨some 13, .mov (.t 0), none⟩])))))))))))
 (.cond (.v 13) (.seq (.draw [⟨none, .mov (.v 0), none⟩, ⟨none, .faddr 4 (.v 2), none⟩, ⟨none, .load false 1 (.t 0), none⟩, ⟨none, .call (.c (.fn 143 [])) [], none⟩, ⟨none, .call (.c (.fn 144 [])) [.t 3, .t 1, .t 0], none⟩] [0, 0, 2, 0, 15] [(2, [4])])
 (.seq (.reg [⟨none, .call (.c (.fn 143 [])) [], none⟩, ⟨none, .store 2 (.v 3) (.t 0), none⟩])
 .ret))
 (.seq (.seq (.reg [⟨none, .bin .eql 3 (.v 7) (.c (.int .i64 15)), none⟩, ⟨some 14, .mov (.t 0), none⟩])
 (.cond (.v 14) .skip
 (.seq (.reg [⟨none, .bin .eql 3 (.v 7) (.c (.int .i64 16)), none⟩, ⟨some 14, .mov (.t 0), none⟩])
 (.cond (.v 14) .skip
 (.seq (.reg [⟨none, .bin .eql 3 (.v 7) (.c (.int .i64 17)), none⟩, ⟨some 14, .mov (.t 0), none⟩])
 (.cond (.v 14) .skip
 (.reg [⟨none, .bin .eql 3 (.v 7) (.c (.int .i64 18)), none⟩, ⟨some 14, .mov (.t 0), none⟩])))))))
 (.cond (.v 14) (.seq (.draw [⟨none, .mov (.v 0), none⟩, ⟨none, .faddr 4 (.v 2), none⟩, ⟨none, .load false 1 (.t 0), none⟩, ⟨none, .call (.c (.fn 143 [])) [], none⟩, ⟨none, .call (.c (.fn 144 [])) [.t 3, .t 1, .t 0], none⟩] [0, 0, 2, 0, 15] [(2, [4])])
 (.seq (.reg [⟨none, .call (.c (.fn 78 [])) [], none⟩, ⟨none, .store 2 (.v 3) (.t 0), none⟩])
 .ret))
 (.seq (.seq (.reg [⟨none, .bin .eql 3 (.v 7) (.c (.int .i64 7)), none⟩, ⟨some 15, .mov (.t 0), none⟩])
 (.cond (.v 15) .skip
 (.seq (.reg [⟨none, .bin .eql 3 (.v 7) (.c (.int .i64 19)), none⟩, ⟨some 15, .mov (.t 0), none⟩])
 (.cond (.v 15) .skip
 (.reg [⟨none, .bin .eql 3 (.v 7) (.c (.int .i64 20)), none⟩, ⟨some 15, .mov (.t 0), none⟩])))))
 (.cond (.v 15) (.seq (.draw [⟨none, .mov (.v 0), none⟩, ⟨none, .faddr 4 (.v 2), none⟩, ⟨none, .load false 1 (.t 0), none⟩, ⟨none, .call (.c (.fn 78 [])) [], none⟩, ⟨none, .call (.c (.fn 144 [])) [.t 3, .t 1, .t 0], none⟩] [0, 0, 2, 0, 15] [(2, [4])])
 (.seq (.reg [⟨none, .call (.c (.fn 78 [])) [], none⟩, ⟨none, .store 2 (.v 3) (.t 0), none⟩])
 .ret))
 (.seq (.seq (.reg [⟨none, .bin .eql 3 (.v 7) (.c (.int .i64 13)), none⟩, ⟨some 16, .mov (.t 0), none⟩])
 (.cond (.v 16) .skip
 (.reg [⟨none, .bin .eql 3 (.v 7) (.c (.int .i64 14)), none⟩, ⟨some 16, .mov (.t 0), none⟩])))
 (.cond (.v 16) (.seq (.reg [⟨none, .mov (.v 0), none⟩, ⟨none, .faddr 4 (.v 2), none⟩, ⟨none, .load false 1 (.t 0), none⟩, ⟨none, .iaddr 7 (.t 0) (.c (.int .i64 0)), none⟩, ⟨none, .load true 7 (.t 0), none⟩, ⟨none, .call (.c (.fn 114 [])) [.t 4, .t 0], none⟩, ⟨some 6, .alloc 53 [.int .i64 0, .int .i64 0], none⟩, ⟨none, .store 2 (.t 0) (.t 1), none⟩])
 (.seq (.block 1 (.seq (.reg [⟨none, .faddr 0 (.v 6), none⟩, ⟨none, .load false 1 (.t 0), none⟩, ⟨none, .bin .eql 3 (.t 0) (.c (.int .i64 3)), none⟩, ⟨some 17, .mov (.t 0), none⟩])
 (.cond (.v 17) (.reg [⟨none, .faddr 4 (.v 2), none⟩, ⟨none, .load false 1 (.t 0), none⟩, ⟨none, .iaddr 7 (.t 0) (.c (.int .i64 0)), none⟩, ⟨none, .faddr 5 (.t 0), none⟩, ⟨none, .load true 2 (.t 0), none⟩, ⟨none, .call (.c (.fn 74 [])) [.t 0, .c (.int .i64 24)], none⟩])
 (.seq (.reg [⟨none, .faddr 0 (.v 6), none⟩, ⟨none, .load false 1 (.t 0), none⟩, ⟨none, .bin .eql 3 (.t 0) (.c (.int .i64 2)), none⟩, ⟨none, .mov (.t 0), none⟩, ⟨none, .mov (.v 0), some (0, true)⟩, ⟨none, .nilck (.t 0), some (1, true)⟩, ⟨none, .faddr 2 (.t 0), some (2, true)⟩, ⟨none, .load false 1 (.t 0), some (3, true)⟩, ⟨none, .pick (.t 4) (.t 0) (.c (.bool false)), none⟩, ⟨some 18, .mov (.t 0), none⟩])
 (.cond (.v 18) (.reg [⟨none, .faddr 5 (.v 2), none⟩, ⟨none, .load true 2 (.t 0), none⟩, ⟨none, .call (.c (.fn 74 [])) [.t 0, .c (.int .i64 26)], none⟩])
 .skip)))))
 (.seq (.draw [⟨none, .mov (.v 0), none⟩, ⟨none, .faddr 4 (.v 2), none⟩, ⟨none, .load false 1 (.t 0), none⟩, ⟨none, .iaddr 7 (.t 0) (.c (.int .i64 1)), none⟩, ⟨none, .load true 7 (.t 0), none⟩, ⟨none, .load true 2 (.v 6), none⟩, ⟨none, .call (.c (.fn 77 [])) [.t 5, .t 1, .t 0], none⟩] [0, 0, 2, 6, 14, 0, 63] [])
 (.seq (.reg [⟨none, .call (.c (.fn 78 [])) [], none⟩, ⟨none, .store 2 (.v 3) (.t 0), none⟩])
 .ret))))
 .skip))))))))))))))))
 (.seq (.reg [⟨none, .mov (.v 0), none⟩, ⟨none, .load true 7 (.v 2), none⟩, ⟨none, .call (.c (.fn 145 [])) [.t 1, .t 0], none⟩, ⟨none, .store 2 (.v 3) (.t 0), none⟩])
 .ret)))), [.cell 3 true 2]⟩
theorem Tryz.fok114 : FnOK Tryz.prog Tryz.tys 114 Tryz.c114 := fn_of (vt := Tryz.c114.vt) Tryz.func114 (by kernel_rfl) (by kernel_rfl)
/- whetstone/whetstoneref01.Trim -/
noncomputable def Tryz.c119k0 : ACode := (.seq (.seq (.reg [⟨none, .mov (.v 2), none⟩, ⟨none, .bin .gtr 3 (.t 0) (.c (.int .i64 0)), none⟩, ⟨none, .mov (.t 0), none⟩, ⟨none, .mov (.v 0), some (0, true)⟩, ⟨none, .mov (.v 2), some (1, true)⟩, ⟨none, .bin .sub 3 (.t 0) (.c (.int .i64 1)), some (2, true)⟩, ⟨none, .iaddr 1 (.t 2) (.t 0), some (3, true)⟩, ⟨none, .load false 1 (.t 0), some (4, true)⟩, ⟨none, .bin .eql 3 (.t 0) (.c (.int .i64 0)), some (5, true)⟩, ⟨some 4, .pick (.t 6) (.t 0) (.c (.bool false)), none⟩])
 (.cond (.v 4) .skip
 (.exit 0)))
 (.block 1 (.reg [⟨none, .mov (.v 2), none⟩, ⟨none, .bin .sub 3 (.t 0) (.c (.int .i64 1)), none⟩, ⟨some 2, .mov (.t 0), none⟩])))
noncomputable def Tryz.c119 : AFn := ⟨[0, 2, 3, 4, 16], (.seq (.reg [⟨some 1, .mov (.c (.nilSlc)), none⟩])
 (.seq (.reg [⟨none, .mov (.v 0), none⟩, ⟨none, .lenV (.t 0), none⟩, ⟨some 2, .mov (.t 0), none⟩])
 (.seq (.block 0 (.loop Tryz.c119k0))
 (.seq (.reg [⟨some 3, .mov (.c (.nilSlc)), none⟩])
 (.seq (.reg [⟨none, .mov (.v 3), none⟩, ⟨none, .mov (.v 0), none⟩, ⟨none, .mov (.v 2), none⟩, ⟨none, .sliceV 1 (.t 1) none (some (.t 0)), none⟩, ⟨none, .append 3 1 8 (.t 3) (.t 0), none⟩, ⟨some 3, .mov (.t 0), none⟩])
 (.seq (.reg [⟨none, .mov (.v 3), none⟩, ⟨some 1, .mov (.t 0), none⟩])
 .ret)))))), [.tmp 1]⟩
theorem Tryz.fok119 : FnOK Tryz.prog Tryz.tys 119 Tryz.c119 := fn_of (vt := Tryz.c119.vt) Tryz.func119 (by kernel_rfl) (by kernel_rfl)
/- whetstone/lex.remark -/
noncomputable def Tryz.c122 : AFn := ⟨[0, 1, 4], (.seq (.reg [⟨some 2, .mov (.c (.bool false)), none⟩])
 (.seq (.reg [⟨none, .mov (.v 0), none⟩, ⟨none, .mov (.v 1), none⟩, ⟨none, .iaddr 1 (.t 1) (.t 0), none⟩, ⟨none, .load false 1 (.t 0), none⟩, ⟨none, .bin .eql 5 (.t 0) (.c (.int .u8 47)), none⟩, ⟨none, .mov (.t 0), none⟩, ⟨none, .mov (.v 1), some (0, true)⟩, ⟨none, .bin .add 3 (.t 0) (.c (.int .i64 1)), some (1, true)⟩, ⟨none, .mov (.v 0), some (2, true)⟩, ⟨none, .lenV (.t 0), some (3, true)⟩, ⟨none, .bin .lss 3 (.t 2) (.t 0), some (4, true)⟩, ⟨none, .pick (.t 5) (.t 0) (.c (.bool false)), none⟩, ⟨none, .mov (.t 0), none⟩, ⟨none, .mov (.v 0), some (0, true)⟩, ⟨none, .mov (.v 1), some (1, true)⟩, ⟨none, .bin .add 3 (.t 0) (.c (.int .i64 1)), some (2, true)⟩, ⟨none, .iaddr 1 (.t 2) (.t 0), some (3, true)⟩, ⟨none, .load false 1 (.t 0), some (4, true)⟩, ⟨none, .bin .eql 5 (.t 0) (.c (.int .u8 47)), some (5, true)⟩, ⟨none, .pick (.t 6) (.t 0) (.c (.bool false)), none⟩, ⟨some 2, .mov (.t 0), none⟩])
 .ret)), [.tmp 2]⟩
theorem Tryz.fok122 : FnOK Tryz.prog Tryz.tys 122 Tryz.c122 := fn_of (vt := Tryz.c122.vt) Tryz.func122 (by kernel_rfl) (by kernel_rfl)
/- whetstone/lex.small -/
noncomputable def Tryz.c123 : AFn := ⟨[0, 2], (.seq (.reg [⟨some 1, .mov (.c (.bool false)), none⟩])
 (.seq (.reg [⟨none, .mov (.v 0), none⟩, ⟨none, .bin .geq 5 (.t 0) (.c (.int .u8 97)), none⟩, ⟨none, .mov (.t 0), none⟩, ⟨none, .mov (.v 0), some (0, true)⟩, ⟨none, .bin .leq 5 (.t 0) (.c (.int .u8 122)), some (1, true)⟩, ⟨none, .pick (.t 2) (.t 0) (.c (.bool false)), none⟩, ⟨some 1, .mov (.t 0), none⟩])
 .ret)), [.tmp 1]⟩
theorem Tryz.fok123 : FnOK Tryz.prog Tryz.tys 123 Tryz.c123 := fn_of (vt := Tryz.c123.vt) Tryz.func123 (by kernel_rfl) (by kernel_rfl)
/- whetstone/lex.digit -/
noncomputable def Tryz.c124 : AFn := ⟨[0, 2], (.seq (.reg [⟨some 1, .mov (.c (.bool false)), none⟩])
 (.seq (.reg [⟨none, .mov (.v 0), none⟩, ⟨none, .bin .geq 5 (.t 0) (.c (.int .u8 48)), none⟩, ⟨none, .mov (.t 0), none⟩, ⟨none, .mov (.v 0), some (0, true)⟩, ⟨none, .bin .leq 5 (.t 0) (.c (.int .u8 57)), some (1, true)⟩, ⟨none, .pick (.t 2) (.t 0) (.c (.bool false)), none⟩, ⟨some 1, .mov (.t 0), none⟩])
 .ret)), [.tmp 1]⟩
theorem Tryz.fok124 : FnOK Tryz.prog Tryz.tys 124 Tryz.c124 := fn_of (vt := Tryz.c124.vt) Tryz.func124 (by kernel_rfl) (by kernel_rfl)
/- whetstone/lex.IsWord -/
noncomputable def Tryz.c125 : AFn := ⟨[0, 2, 3, 4], (.seq (.reg [⟨some 1, .mov (.c (.bool false)), none⟩])
 (.seq (.seq (.reg [⟨some 2, .mov (.v 0), none⟩])
 (.block 0 (.seq (.seq (.reg [⟨none, .bin .eql 9 (.v 2) (.c (.str ⟨#[102, 110]⟩)), none⟩, ⟨some 3, .mov (.t 0), none⟩])
 (.cond (.v 3) .skip
 (.seq (.reg [⟨none, .bin .eql 9 (.v 2) (.c (.str ⟨#[112, 117, 98]⟩)), none⟩, ⟨some 3, .mov (.t 0), none⟩])
 (.cond (.v 3) .skip
 (.seq (.reg [⟨none, .bin .eql 9 (.v 2) (.c (.str ⟨#[113, 117, 97, 108]⟩)), none⟩, ⟨some 3, .mov (.t 0), none⟩])
 (.cond (.v 3) .skip
 (.seq (.reg [⟨none, .bin .eql 9 (.v 2) (.c (.str ⟨#[108, 101, 116]⟩)), none⟩, ⟨some 3, .mov (.t 0), none⟩])
 (.cond (.v 3) .skip
 (.seq (.reg [⟨none, .bin .eql 9 (.v 2) (.c (.str ⟨#[105, 110]⟩)), none⟩, ⟨some 3, .mov (.t 0), none⟩])
 (.cond (.v 3) .skip
 (.seq (.reg [⟨none, .bin .eql 9 (.v 2) (.c (.str ⟨#[105, 102]⟩)), none⟩, ⟨some 3, .mov (.t 0), none⟩])
 (.cond (.v 3) .skip
 (.seq (.reg [⟨none, .bin .eql 9 (.v 2) (.c (.str ⟨#[116, 104, 101, 110]⟩)), none⟩, ⟨some 3, .mov (.t 0), none⟩])
 (.cond (.v 3) .skip
 (.seq (.reg [⟨none, .bin .eql 9 (.v 2) (.c (.str ⟨#[101, 108, 115, 101]⟩)), none⟩, ⟨some 3, .mov (.t 0), none⟩])
 (.cond (.v 3) .skip
 (.seq (.reg [⟨none, .bin .eql 9 (.v 2) (.c (.str ⟨#[97, 115, 115, 101, 114, 116]⟩)), none⟩, ⟨some 3, .mov (.t 0), none⟩])
 (.cond (.v 3) .skip
 (.seq (.reg [⟨none, .bin .eql 9 (.v 2) (.c (.str ⟨#[116, 114, 117, 101]⟩)), none⟩, ⟨some 3, .mov (.t 0), none⟩])
 (.cond (.v 3) .skip
 (.seq (.reg [⟨none, .bin .eql 9 (.v 2) (.c (.str ⟨#[102, 97, 108, 115, 101]⟩)), none⟩, ⟨some 3, .mov (.t 0), none⟩])
 (.cond (.v 3) .skip
 (.seq (.reg [⟨none, .bin .eql 9 (.v 2) (.c (.str ⟨#[105, 110, 116]⟩)), none⟩, ⟨some 3, .mov (.t 0), none⟩])
 (.cond (.v 3) .skip
 (.seq (.reg [⟨none, .bin .eql 9 (.v 2) (.c (.str ⟨#[98, 111, 111, 108]⟩)), none⟩, ⟨some 3, .mov (.t 0), none⟩])
 (.cond (.v 3) .skip
 (.seq (.reg [⟨none, .bin .eql 9 (.v 2) (.c (.str ⟨#[97, 114, 114]⟩)), none⟩, ⟨some 3, .mov (.t 0), none⟩])
 (.cond (.v 3) .skip
 (.seq (.reg [⟨none, .bin .eql 9 (.v 2) (.c (.str ⟨#[103, 101, 116]⟩)), none⟩, ⟨some 3, .mov (.t 0), none⟩])
 (.cond (.v 3) .skip
 (.seq (.reg [⟨none, .bin .eql 9 (.v 2) (.c (.str ⟨#[115, 101, 116]⟩)), none⟩, ⟨some 3, .mov (.t 0), none⟩])
 (.cond (.v 3) .skip
 (.seq (.reg [⟨none, .bin .eql 9 (.v 2) (.c (.str ⟨#[108, 101, 110]⟩)), none⟩, ⟨some 3, .mov (.t 0), none⟩])
 (.cond (.v 3) .skip
 (.seq (.reg [⟨none, .bin .eql 9 (.v 2) (.c (.str ⟨#[102, 105, 108, 108]⟩)), none⟩, ⟨some 3, .mov (.t 0), none⟩])
 (.cond (.v 3) .skip
 (.seq (.reg [⟨none, .bin .eql 9 (.v 2) (.c (.str ⟨#[110, 111, 116]⟩)), none⟩, ⟨some 3, .mov (.t 0), none⟩])
 (.cond (.v 3) .skip
 (.seq (.reg [⟨none, .bin .eql 9 (.v 2) (.c (.str ⟨#[97, 110, 100]⟩)), none⟩, ⟨some 3, .mov (.t 0), none⟩])
 (.cond (.v 3) .skip
 (.seq (.reg [⟨none, .bin .eql 9 (.v 2) (.c (.str ⟨#[111, 114]⟩)), none⟩, ⟨some 3, .mov (.t 0), none⟩])
 (.cond (.v 3) .skip
 (.reg [⟨none, .bin .eql 9 (.v 2) (.c (.str ⟨#[118]⟩)), none⟩, ⟨some 3, .mov (.t 0), none⟩])))))))))))))))))))))))))))))))))))))))))))
 (.cond (.v 3) (.seq (.reg [⟨some 1, .mov (.c (.bool true)), none⟩])
 .ret)
 .skip))))
 (.seq (.reg [⟨some 1, .mov (.c (.bool false)), none⟩])
 .ret))), [.tmp 1]⟩
theorem Tryz.fok125 : FnOK Tryz.prog Tryz.tys 125 Tryz.c125 := fn_of (vt := Tryz.c125.vt) Tryz.func125 (by kernel_rfl) (by kernel_rfl)
/- whetstone/lex.sign -/
noncomputable def Tryz.c126 : AFn := ⟨[0, 1, 4, 9, 15, 16, 24, 25], (.seq (.reg [⟨some 2, .mov (.c (.int .i64 0)), none⟩])
 (.seq (.seq (.reg [⟨none, .mov (.v 1), none⟩, ⟨none, .bin .add 3 (.t 0) (.c (.int .i64 1)), none⟩, ⟨none, .mov (.v 0), none⟩, ⟨none, .lenV (.t 0), none⟩, ⟨some 3, .bin .lss 3 (.t 2) (.t 0), none⟩])
 (.cond (.v 3) (.seq (.reg [⟨none, .mov (.v 0), none⟩, ⟨none, .mov (.v 1), none⟩, ⟨none, .mov (.v 1), none⟩, ⟨none, .bin .add 3 (.t 0) (.c (.int .i64 2)), none⟩, ⟨none, .sliceV 1 (.t 3) (some (.t 2)) (some (.t 0)), none⟩, ⟨some 4, .b2s (.t 0), none⟩])
 (.block 0 (.seq (.seq (.reg [⟨none, .bin .eql 9 (.v 4) (.c (.str ⟨#[45, 62]⟩)), none⟩, ⟨some 5, .mov (.t 0), none⟩])
 (.cond (.v 5) .skip
 (.seq (.reg [⟨none, .bin .eql 9 (.v 4) (.c (.str ⟨#[60, 61]⟩)), none⟩, ⟨some 5, .mov (.t 0), none⟩])
 (.cond (.v 5) .skip
 (.seq (.reg [⟨none, .bin .eql 9 (.v 4) (.c (.str ⟨#[62, 61]⟩)), none⟩, ⟨some 5, .mov (.t 0), none⟩])
 (.cond (.v 5) .skip
 (.reg [⟨none, .bin .eql 9 (.v 4) (.c (.str ⟨#[33, 61]⟩)), none⟩, ⟨some 5, .mov (.t 0), none⟩])))))))
 (.cond (.v 5) (.seq (.reg [⟨some 2, .mov (.c (.int .i64 2)), none⟩])
 .ret)
 .skip))))
 .skip))
 (.seq (.seq (.reg [⟨none, .mov (.v 0), none⟩, ⟨none, .mov (.v 1), none⟩, ⟨none, .iaddr 1 (.t 1) (.t 0), none⟩, ⟨some 6, .load false 1 (.t 0), none⟩])
 (.block 1 (.seq (.seq (.reg [⟨none, .bin .eql 5 (.v 6) (.c (.int .u8 40)), none⟩, ⟨some 7, .mov (.t 0), none⟩])
 (.cond (.v 7) .skip
 (.seq (.reg [⟨none, .bin .eql 5 (.v 6) (.c (.int .u8 41)), none⟩, ⟨some 7, .mov (.t 0), none⟩])
 (.cond (.v 7) .skip
 (.seq (.reg [⟨none, .bin .eql 5 (.v 6) (.c (.int .u8 123)), none⟩, ⟨some 7, .mov (.t 0), none⟩])
 (.cond (.v 7) .skip
 (.seq (.reg [⟨none, .bin .eql 5 (.v 6) (.c (.int .u8 125)), none⟩, ⟨some 7, .mov (.t 0), none⟩])
 (.cond (.v 7) .skip
 (.seq (.reg [⟨none, .bin .eql 5 (.v 6) (.c (.int .u8 44)), none⟩, ⟨some 7, .mov (.t 0), none⟩])
 (.cond (.v 7) .skip
 (.seq (.reg [⟨none, .bin .eql 5 (.v 6) (.c (.int .u8 58)), none⟩, ⟨some 7, .mov (.t 0), none⟩])
 (.cond (.v 7) .skip
 (.seq (.reg [⟨none, .bin .eql 5 (.v 6) (.c (.int .u8 61)), none⟩, ⟨some 7, .mov (.t 0), none⟩])
 (.cond (.v 7) .skip
 (.seq (.reg [⟨none, .bin .eql 5 (.v 6) (.c (.int .u8 59)), none⟩, ⟨some 7, .mov (.t 0), none⟩])
 (.cond (.v 7) .skip
 (.seq (.reg [⟨none, .bin .eql 5 (.v 6) (.c (.int .u8 43)), none⟩, ⟨some 7, .mov (.t 0), none⟩])
 (.cond (.v 7) .skip
 (.seq (.reg [⟨none, .bin .eql 5 (.v 6) (.c (.int .u8 45)), none⟩, ⟨some 7, .mov (.t 0), none⟩])
 (.cond (.v 7) .skip
 (.seq (.reg [⟨none, .bin .eql 5 (.v 6) (.c (.int .u8 42)), none⟩, ⟨some 7, .mov (.t 0), none⟩])
 (.cond (.v 7) .skip
 (.seq (.reg [⟨none, .bin .eql 5 (.v 6) (.c (.int .u8 47)), none⟩, ⟨some 7, .mov (.t 0), none⟩])
 (.cond (.v 7) .skip
 (.seq (.reg [⟨none, .bin .eql 5 (.v 6) (.c (.int .u8 37)), none⟩, ⟨some 7, .mov (.t 0), none⟩])
 (.cond (.v 7) .skip
 (.seq (.reg [⟨none, .bin .eql 5 (.v 6) (.c (.int .u8 60)), none⟩, ⟨some 7, .mov (.t 0), none⟩])
 (.cond (.v 7) .skip
 (.reg [⟨none, .bin .eql 5 (.v 6) (.c (.int .u8 62)), none⟩, ⟨some 7, .mov (.t 0), none⟩])))))))))))))))))))))))))))))
 (.cond (.v 7) (.seq (.reg [⟨some 2, .mov (.c (.int .i64 1)), none⟩])
 .ret)
 .skip))))
 (.seq (.reg [⟨some 2, .mov (.c (.int .i64 0)), none⟩])
 .ret)))), [.tmp 2]⟩
theorem Tryz.fok126 : FnOK Tryz.prog Tryz.tys 126 Tryz.c126 := fn_of (vt := Tryz.c126.vt) Tryz.func126 (by kernel_rfl) (by kernel_rfl)
/- (*whetstone/syntax.parser).is -/
noncomputable def Tryz.c127 : AFn := ⟨[0, 1, 4, 5], (.seq (.reg [⟨some 2, .mov (.c (.bool false)), none⟩])
 (.seq (.reg [⟨none, .mov (.v 0), none⟩, ⟨none, .call (.c (.fn 94 [])) [.t 0], none⟩, ⟨some 3, .alloc 214 [.int .i64 0, .str ⟨#[]⟩, .int .i64 0, .int .i64 0], none⟩, ⟨none, .store 4 (.t 0) (.t 1), none⟩])
 (.seq (.reg [⟨none, .faddr 0 (.v 3), none⟩, ⟨none, .load false 1 (.t 0), none⟩, ⟨none, .bin .eql 3 (.t 0) (.c (.int .i64 2)), none⟩, ⟨none, .mov (.t 0), none⟩, ⟨none, .faddr 0 (.v 3), some (0, false)⟩, ⟨none, .load false 1 (.t 0), some (1, false)⟩, ⟨none, .bin .eql 3 (.t 0) (.c (.int .i64 4)), some (2, false)⟩, ⟨none, .pick (.t 3) (.c (.bool true)) (.t 0), none⟩, ⟨none, .mov (.t 0), none⟩, ⟨none, .faddr 1 (.v 3), some (0, true)⟩, ⟨none, .load false 1 (.t 0), some (1, true)⟩, ⟨none, .mov (.v 1), some (2, true)⟩, ⟨none, .bin .eql 9 (.t 1) (.t 0), some (3, true)⟩, ⟨none, .pick (.t 4) (.t 0) (.c (.bool false)), none⟩, ⟨some 2, .mov (.t 0), none⟩])
 .ret))), [.tmp 2]⟩
theorem Tryz.fok127 : FnOK Tryz.prog Tryz.tys 127 Tryz.c127 := fn_of (vt := Tryz.c127.vt) Tryz.func127 (by kernel_rfl) (by kernel_rfl)
/- (*whetstone/syntax.parser).name -/
noncomputable def Tryz.c128 : AFn := ⟨[0, 2, 6], (.seq (.reg [⟨some 1, .alloc 214 [.int .i64 0, .str ⟨#[]⟩, .int .i64 0, .int .i64 0], none⟩])
 (.seq (.seq (.reg [⟨none, .mov (.v 0), none⟩, ⟨none, .call (.c (.fn 94 [])) [.t 0], none⟩, ⟨none, .fld 0 1 false (.t 0), none⟩, ⟨some 2, .bin .neq 3 (.t 0) (.c (.int .i64 1)), none⟩])
 (.cond (.v 2) (.reg [⟨none, .mov (.v 0), none⟩, ⟨none, .call (.c (.fn 129 [])) [.t 0], none⟩])
 .skip))
 (.seq (.reg [⟨none, .mov (.v 0), none⟩, ⟨none, .call (.c (.fn 157 [])) [.t 0], none⟩, ⟨none, .store 4 (.v 1) (.t 0), none⟩])
 .ret))), [.cell 1 true 4]⟩
theorem Tryz.fok128 : FnOK Tryz.prog Tryz.tys 128 Tryz.c128 := fn_of (vt := Tryz.c128.vt) Tryz.func128 (by kernel_rfl) (by kernel_rfl)
/- (*whetstone/syntax.parser).miss -/
noncomputable def Tryz.c129 : AFn := ⟨[0, 5], (.seq (.seq (.reg [⟨none, .mov (.v 0), none⟩, ⟨none, .call (.c (.fn 94 [])) [.t 0], none⟩, ⟨none, .fld 0 1 false (.t 0), none⟩, ⟨some 1, .bin .eql 3 (.t 0) (.c (.int .i64 0)), none⟩])
 (.cond (.v 1) (.reg [⟨none, .mov (.v 0), none⟩, ⟨none, .call (.c (.fn 95 [])) [.t 0, .c (.int .i64 11)], none⟩])
 .skip))
 (.reg [⟨none, .mov (.v 0), none⟩, ⟨none, .call (.c (.fn 95 [])) [.t 0, .c (.int .i64 21)], none⟩])), []⟩
theorem Tryz.fok129 : FnOK Tryz.prog Tryz.tys 129 Tryz.c129 := fn_of (vt := Tryz.c129.vt) Tryz.func129 (by kernel_rfl) (by kernel_rfl)
/- (*whetstone/syntax.parser).typ -/
noncomputable def Tryz.c130 : AFn := ⟨[0, 2, 3, 4, 11, 15, 19, 27], (.seq (.reg [⟨some 1, .alloc 35 [.int .i64 0, .int .i64 0, .nilSlc, .int .i64 0, .int .i64 0], none⟩])
 (.seq (.reg [⟨none, .mov (.v 0), none⟩, ⟨none, .call (.c (.fn 94 [])) [.t 0], none⟩, ⟨none, .fld 2 2 true (.t 0), none⟩, ⟨none, .fld 0 1 false (.t 0), none⟩, ⟨some 2, .mov (.t 0), none⟩])
 (.seq (.reg [⟨some 3, .alloc 35 [.int .i64 0, .int .i64 0, .nilSlc, .int .i64 0, .int .i64 0], none⟩])
 (.seq (.block 0 (.seq (.reg [⟨none, .mov (.v 0), none⟩, ⟨none, .call (.c (.fn 89 [])) [.t 0, .c (.str ⟨#[105, 110, 116]⟩)], none⟩, ⟨some 4, .mov (.t 0), none⟩])
 (.cond (.v 4) (.reg [⟨none, .faddr 0 (.v 3), none⟩, ⟨none, .store 1 (.t 0) (.c (.int .i64 1)), none⟩])
 (.seq (.reg [⟨none, .mov (.v 0), none⟩, ⟨none, .call (.c (.fn 89 [])) [.t 0, .c (.str ⟨#[98, 111, 111, 108]⟩)], none⟩, ⟨some 5, .mov (.t 0), none⟩])
 (.cond (.v 5) (.reg [⟨none, .faddr 0 (.v 3), none⟩, ⟨none, .store 1 (.t 0) (.c (.int .i64 2)), none⟩])
 (.seq (.reg [⟨none, .mov (.v 0), none⟩, ⟨none, .call (.c (.fn 89 [])) [.t 0, .c (.str ⟨#[97, 114, 114]⟩)], none⟩, ⟨some 6, .mov (.t 0), none⟩])
 (.cond (.v 6) (.seq (.reg [⟨none, .faddr 0 (.v 3), none⟩, ⟨none, .store 1 (.t 0) (.c (.int .i64 3)), none⟩])
 (.reg [⟨none, .mov (.v 0), none⟩, ⟨none, .call (.c (.fn 158 [])) [.t 0], none⟩, ⟨none, .faddr 1 (.v 3), none⟩, ⟨none, .store 1 (.t 0) (.t 1), none⟩]))
 (.reg [⟨none, .mov (.v 0), none⟩, ⟨none, .call (.c (.fn 129 [])) [.t 0], none⟩]))))))))
 (.seq (.seq (.reg [⟨none, .mov (.v 0), none⟩, ⟨some 7, .call (.c (.fn 89 [])) [.t 0, .c (.str ⟨#[123]⟩)], none⟩])
 (.cond (.v 7) (.seq (.reg [⟨none, .mov (.v 0), none⟩, ⟨none, .call (.c (.fn 93 [])) [.t 0], none⟩, ⟨none, .mkslc 40 7 1 [.int .i64 0, .str ⟨#[]⟩, .bool false, .nilSlc, .nilSlc, .int .i64 0, .int .i64 0] [(0, .t 0)], none⟩, ⟨none, .faddr 2 (.v 3), none⟩, ⟨none, .store 1 (.t 0) (.t 1), none⟩])
 (.reg [⟨none, .mov (.v 0), none⟩, ⟨none, .call (.c (.fn 91 [])) [.t 0, .c (.str ⟨#[125]⟩)], none⟩]))
 .skip))
 (.seq (.reg [⟨none, .mov (.v 0), none⟩, ⟨none, .mov (.v 2), none⟩, ⟨none, .call (.c (.fn 134 [])) [.t 1, .t 0], none⟩, ⟨none, .faddr 3 (.v 3), none⟩, ⟨none, .store 2 (.t 0) (.t 1), none⟩])
 (.seq (.reg [⟨none, .load true 5 (.v 3), none⟩, ⟨none, .store 5 (.v 1) (.t 0), none⟩])
 .ret))))))), [.cell 1 true 5]⟩
theorem Tryz.fok130 : FnOK Tryz.prog Tryz.tys 130 Tryz.c130 := fn_of (vt := Tryz.c130.vt) Tryz.func130 (by kernel_rfl) (by kernel_rfl)
/- (*whetstone/syntax.parser).deeper -/
noncomputable def Tryz.c131 : AFn := ⟨[0, 13], (.seq (.reg [⟨none, .mov (.v 0), none⟩, ⟨none, .nilck (.t 0), none⟩, ⟨none, .faddr 2 (.t 0), none⟩, ⟨none, .load false 1 (.t 0), none⟩, ⟨none, .bin .add 3 (.t 0) (.c (.int .i64 1)), none⟩, ⟨none, .nilck (.t 4), none⟩, ⟨none, .faddr 2 (.t 0), none⟩, ⟨none, .store 1 (.t 0) (.t 2), none⟩])
 (.seq (.reg [⟨none, .mov (.v 0), none⟩, ⟨none, .nilck (.t 0), none⟩, ⟨none, .faddr 2 (.t 0), none⟩, ⟨none, .load false 1 (.t 0), none⟩, ⟨some 1, .bin .gtr 3 (.t 0) (.c (.int .i64 60)), none⟩])
 (.cond (.v 1) (.reg [⟨none, .mov (.v 0), none⟩, ⟨none, .call (.c (.fn 95 [])) [.t 0, .c (.int .i64 13)], none⟩])
 .skip))), []⟩
theorem Tryz.fok131 : FnOK Tryz.prog Tryz.tys 131 Tryz.c131 := fn_of (vt := Tryz.c131.vt) Tryz.func131 (by kernel_rfl) (by kernel_rfl)
/- (*whetstone/syntax.parser).expr$1 -/
noncomputable def Tryz.c132 : AFn := ⟨[0], (.reg [⟨none, .load false 1 (.v 0), none⟩, ⟨none, .nilck (.t 0), none⟩, ⟨none, .faddr 2 (.t 0), none⟩, ⟨none, .load false 1 (.t 0), none⟩, ⟨none, .bin .sub 3 (.t 0) (.c (.int .i64 1)), none⟩, ⟨none, .nilck (.t 4), none⟩, ⟨none, .faddr 2 (.t 0), none⟩, ⟨none, .store 1 (.t 0) (.t 2), none⟩]), []⟩
theorem Tryz.fok132 : FnOK Tryz.prog Tryz.tys 132 Tryz.c132 := fn_of (vt := Tryz.c132.vt) Tryz.func132 (by kernel_rfl) (by kernel_rfl)
/- (*whetstone/syntax.parser).made -/
noncomputable def Tryz.c133 : AFn := ⟨[0, 1, 2, 3, 8], (.seq (.reg [⟨some 4, .alloc 40 [.int .i64 0, .str ⟨#[]⟩, .bool false, .nilSlc, .nilSlc, .int .i64 0, .int .i64 0], none⟩])
 (.seq (.reg [⟨none, .mov (.v 1), none⟩, ⟨none, .mov (.v 3), none⟩, ⟨none, .mov (.v 0), none⟩, ⟨none, .mov (.v 2), none⟩, ⟨none, .call (.c (.fn 134 [])) [.t 1, .t 0], none⟩, ⟨none, .build [.int .i64 0, .str ⟨#[]⟩, .bool false, .nilSlc, .nilSlc, .int .i64 0, .int .i64 0] [(0, 1, .t 4), (4, 1, .t 3), (5, 2, .t 0)], none⟩, ⟨none, .store 7 (.v 4) (.t 0), none⟩])
 .ret)), [.cell 4 true 7]⟩
theorem Tryz.fok133 : FnOK Tryz.prog Tryz.tys 133 Tryz.c133 := fn_of (vt := Tryz.c133.vt) Tryz.func133 (by kernel_rfl) (by kernel_rfl)
/- (*whetstone/syntax.parser).to -/
noncomputable def Tryz.c134 : AFn := ⟨[0, 1, 4], (.seq (.reg [⟨some 2, .alloc 31 [.int .i64 0, .int .i64 0], none⟩])
 (.seq (.draw [⟨none, .mov (.v 1), none⟩, ⟨none, .mov (.v 0), none⟩, ⟨none, .nilck (.t 0), none⟩, ⟨none, .faddr 0 (.t 0), none⟩, ⟨none, .load false 1 (.t 0), none⟩, ⟨none, .mov (.v 0), none⟩, ⟨none, .nilck (.t 0), none⟩, ⟨none, .faddr 1 (.t 0), none⟩, ⟨none, .load false 1 (.t 0), none⟩, ⟨none, .bin .sub 3 (.t 0) (.c (.int .i64 1)), none⟩, ⟨none, .iaddr 4 (.t 5) (.t 0), none⟩, ⟨none, .faddr 2 (.t 0), none⟩, ⟨none, .faddr 1 (.t 0), none⟩, ⟨none, .load false 1 (.t 0), none⟩, ⟨none, .build [.int .i64 0, .int .i64 0] [(0, 1, .t 13), (1, 1, .t 0)], none⟩, ⟨none, .store 2 (.v 2) (.t 0), none⟩] [0, 0, 2, 6, 14, 0, 32, 96, 224, 480, 1022, 2046, 4094, 8190, 16383, 32767] [])
 .ret)), [.cell 2 true 2]⟩
theorem Tryz.fok134 : FnOK Tryz.prog Tryz.tys 134 Tryz.c134 := fn_of (vt := Tryz.c134.vt) Tryz.func134 (by kernel_rfl) (by kernel_rfl)
/- (*whetstone/syntax.parser).row -/
noncomputable def Tryz.c135k0 : ACode := (.block 1 (.seq (.reg [⟨none, .mov (.v 1), none⟩, ⟨none, .mov (.v 0), none⟩, ⟨none, .call (.c (.fn 94 [])) [.t 0], none⟩, ⟨none, .call (.c (.fn 160 [])) [.t 2, .t 0], none⟩, ⟨some 5, .mov (.t 0), none⟩])
 (.seq (.seq (.reg [⟨none, .mov (.v 5), none⟩, ⟨some 8, .bin .eql 3 (.t 0) (.c (.int .i64 0)), none⟩])
 (.cond (.v 8) (.seq (.reg [⟨none, .load true 7 (.v 4), none⟩, ⟨none, .store 7 (.v 2) (.t 0), none⟩])
 .ret)
 .skip))
 (.seq (.reg [⟨none, .mov (.v 0), none⟩, ⟨none, .nilck (.t 0), none⟩, ⟨none, .faddr 1 (.t 0), none⟩, ⟨none, .load false 1 (.t 0), none⟩, ⟨none, .bin .add 3 (.t 0) (.c (.int .i64 1)), none⟩, ⟨none, .nilck (.t 4), none⟩, ⟨none, .faddr 1 (.t 0), none⟩, ⟨none, .store 1 (.t 0) (.t 2), none⟩])
 (.seq (.reg [⟨none, .mov (.v 0), none⟩, ⟨none, .mov (.v 1), none⟩, ⟨none, .bin .add 3 (.t 0) (.c (.int .i64 1)), none⟩, ⟨none, .call (.c (.fn 135 [])) [.t 2, .t 0], none⟩, ⟨some 6, .alloc 40 [.int .i64 0, .str ⟨#[]⟩, .bool false, .nilSlc, .nilSlc, .int .i64 0, .int .i64 0], none⟩, ⟨none, .store 7 (.t 0) (.t 1), none⟩])
 (.seq (.reg [⟨none, .mov (.v 0), none⟩, ⟨none, .mov (.v 5), none⟩, ⟨none, .mov (.v 3), none⟩, ⟨none, .load true 7 (.v 4), none⟩, ⟨none, .load true 7 (.v 6), none⟩, ⟨none, .mkslc 40 7 2 [.int .i64 0, .str ⟨#[]⟩, .bool false, .nilSlc, .nilSlc, .int .i64 0, .int .i64 0] [(0, .t 1), (1, .t 0)], none⟩, ⟨none, .call (.c (.fn 133 [])) [.t 5, .t 4, .t 3, .t 0], none⟩, ⟨none, .store 7 (.v 4) (.t 0), none⟩])
 (.seq (.reg [⟨none, .mov (.v 1), none⟩, ⟨some 9, .bin .eql 3 (.t 0) (.c (.int .i64 2)), none⟩])
 (.cond (.v 9) (.seq (.reg [⟨none, .load true 7 (.v 4), none⟩, ⟨none, .store 7 (.v 2) (.t 0), none⟩])
 .ret)
 .skip))))))))
noncomputable def Tryz.c135 : AFn := ⟨[0, 1, 4, 5, 6, 7, 8, 10, 26, 47], (.seq (.reg [⟨some 2, .alloc 40 [.int .i64 0, .str ⟨#[]⟩, .bool false, .nilSlc, .nilSlc, .int .i64 0, .int .i64 0], none⟩])
 (.seq (.seq (.reg [⟨none, .mov (.v 1), none⟩, ⟨some 7, .bin .eql 3 (.t 0) (.c (.int .i64 5)), none⟩])
 (.cond (.v 7) (.seq (.reg [⟨none, .mov (.v 0), none⟩, ⟨none, .call (.c (.fn 159 [])) [.t 0], none⟩, ⟨none, .store 7 (.v 2) (.t 0), none⟩])
 .ret)
 .skip))
 (.seq (.reg [⟨none, .mov (.v 0), none⟩, ⟨none, .call (.c (.fn 94 [])) [.t 0], none⟩, ⟨none, .fld 2 2 true (.t 0), none⟩, ⟨none, .fld 0 1 false (.t 0), none⟩, ⟨some 3, .mov (.t 0), none⟩])
 (.seq (.reg [⟨none, .mov (.v 0), none⟩, ⟨none, .mov (.v 1), none⟩, ⟨none, .bin .add 3 (.t 0) (.c (.int .i64 1)), none⟩, ⟨none, .call (.c (.fn 135 [])) [.t 2, .t 0], none⟩, ⟨some 4, .alloc 40 [.int .i64 0, .str ⟨#[]⟩, .bool false, .nilSlc, .nilSlc, .int .i64 0, .int .i64 0], none⟩, ⟨none, .store 7 (.t 0) (.t 1), none⟩])
 (.block 0 (.loop Tryz.c135k0)))))), [.cell 2 true 7]⟩
theorem Tryz.fok135 : FnOK Tryz.prog Tryz.tys 135 Tryz.c135 := fn_of (vt := Tryz.c135.vt) Tryz.func135 (by kernel_rfl) (by kernel_rfl)
/- (*whetstone/whetstoneref10.Checker).kind -/
noncomputable def Tryz.c136 : AFn := ⟨[0, 1, 2, 4, 6, 7, 8, 9, 14, 39, 71, 79, 84, 94, 106, 121, 129, 149, 164, 184, 209, 237], (.seq (.reg [⟨some 3, .box 49 (.v 1), none⟩, ⟨some 4, .alloc 55 [.int .i64 0, .int .i64 0], none⟩])
 (.seq (.seq (.reg [⟨none, .mov (.v 0), none⟩, ⟨none, .nilck (.t 0), none⟩, ⟨none, .faddr 2 (.t 0), none⟩, ⟨none, .load false 1 (.t 0), none⟩, ⟨some 8, .bin .neq 3 (.t 0) (.c (.int .i64 0)), none⟩])
 (.cond (.v 8) (.seq (.reg [⟨none, .build [.int .i64 0, .int .i64 0] [], none⟩, ⟨none, .store 2 (.v 4) (.t 0), none⟩])
 .ret)
 .skip))
 (.seq (.seq (.reg [⟨none, .mov (.v 0), none⟩, ⟨none, .nilck (.t 0), none⟩, ⟨none, .faddr 1 (.t 0), none⟩, ⟨none, .load false 1 (.t 0), none⟩, ⟨none, .mov (.t 0), none⟩, ⟨none, .faddr 0 (.v 3), some (0, true)⟩, ⟨none, .load false 1 (.t 0), some (1, true)⟩, ⟨none, .bin .eql 3 (.t 0) (.c (.int .i64 5)), some (2, true)⟩, ⟨none, .mov (.t 0), some (3, true)⟩, ⟨none, .faddr 0 (.v 3), some (0, false)⟩, ⟨none, .load false 1 (.t 0), some (1, false)⟩, ⟨none, .bin .eql 3 (.t 0) (.c (.int .i64 11)), some (2, false)⟩, ⟨none, .pick (.t 3) (.c (.bool true)) (.t 0), some (7, true)⟩, ⟨none, .mov (.t 0), some (8, true)⟩, ⟨none, .faddr 0 (.v 3), some (0, false)⟩, ⟨none, .load false 1 (.t 0), some (1, false)⟩, ⟨none, .bin .eql 3 (.t 0) (.c (.int .i64 12)), some (2, false)⟩, ⟨none, .pick (.t 3) (.c (.bool true)) (.t 0), some (12, true)⟩, ⟨none, .mov (.t 0), some (13, true)⟩, ⟨none, .faddr 0 (.v 3), some (0, false)⟩, ⟨none, .load false 1 (.t 0), some (1, false)⟩, ⟨none, .bin .geq 3 (.t 0) (.c (.int .i64 21)), some (2, false)⟩, ⟨none, .pick (.t 3) (.c (.bool true)) (.t 0), some (17, true)⟩, ⟨some 9, .pick (.t 18) (.t 0) (.c (.bool false)), none⟩])
 (.cond (.v 9) (.seq (.reg [⟨none, .mov (.v 0), none⟩, ⟨none, .faddr 4 (.v 3), none⟩, ⟨none, .load false 1 (.t 0), none⟩, ⟨none, .faddr 5 (.v 3), none⟩, ⟨none, .load false 1 (.t 0), none⟩, ⟨none, .call (.c (.fn 98 [])) [.t 4, .c (.int .i64 26), .t 2, .t 0], none⟩])
 (.seq (.reg [⟨none, .build [.int .i64 0, .int .i64 0] [], none⟩, ⟨none, .store 2 (.v 4) (.t 0), none⟩])
 .ret))
 .skip))
 (.seq (.seq (.reg [⟨none, .mov (.v 0), none⟩, ⟨none, .nilck (.t 0), none⟩, ⟨none, .faddr 1 (.t 0), none⟩, ⟨none, .load false 1 (.t 0), none⟩, ⟨none, .mov (.t 0), none⟩, ⟨none, .faddr 0 (.v 3), some (0, true)⟩, ⟨none, .load false 1 (.t 0), some (1, true)⟩, ⟨none, .bin .eql 3 (.t 0) (.c (.int .i64 10)), some (2, true)⟩, ⟨none, .pick (.t 3) (.t 0) (.c (.bool false)), none⟩, ⟨none, .mov (.t 0), none⟩, ⟨none, .faddr 3 (.v 3), some (0, true)⟩, ⟨none, .load false 1 (.t 0), some (1, true)⟩, ⟨none, .iaddr 6 (.t 0) (.c (.int .i64 0)), some (2, true)⟩, ⟨none, .load true 6 (.t 0), some (3, true)⟩, ⟨none, .call (.c (.fn 18 [])) [.t 0], some (4, true)⟩, ⟨none, .un .not (.t 0), some (5, true)⟩, ⟨none, .pick (.t 6) (.t 0) (.c (.bool false)), none⟩, ⟨none, .mov (.t 0), none⟩, ⟨none, .faddr 3 (.v 3), some (0, true)⟩, ⟨none, .load false 1 (.t 0), some (1, true)⟩, ⟨none, .iaddr 6 (.t 0) (.c (.int .i64 1)), some (2, true)⟩, ⟨none, .load true 6 (.t 0), some (3, true)⟩, ⟨none, .call (.c (.fn 18 [])) [.t 0], some (4, true)⟩, ⟨none, .un .not (.t 0), some (5, true)⟩, ⟨some 10, .pick (.t 6) (.t 0) (.c (.bool false)), none⟩])
 (.cond (.v 10) (.seq (.reg [⟨none, .mov (.v 0), none⟩, ⟨none, .faddr 4 (.v 3), none⟩, ⟨none, .load false 1 (.t 0), none⟩, ⟨none, .faddr 5 (.v 3), none⟩, ⟨none, .load false 1 (.t 0), none⟩, ⟨none, .call (.c (.fn 98 [])) [.t 4, .c (.int .i64 26), .t 2, .t 0], none⟩])
 (.seq (.reg [⟨none, .build [.int .i64 0, .int .i64 0] [], none⟩, ⟨none, .store 2 (.v 4) (.t 0), none⟩])
 .ret))
 .skip))
 (.seq (.block 0 (.seq (.reg [⟨none, .faddr 0 (.v 3), none⟩, ⟨none, .load false 1 (.t 0), none⟩, ⟨none, .bin .eql 3 (.t 0) (.c (.int .i64 1)), none⟩, ⟨some 11, .mov (.t 0), none⟩])
 (.cond (.v 11) (.seq (.reg [⟨none, .build [.int .i64 0, .int .i64 0] [(0, 1, .c (.int .i64 1))], none⟩, ⟨none, .store 2 (.v 4) (.t 0), none⟩])
 .ret)
 (.seq (.reg [⟨none, .faddr 0 (.v 3), none⟩, ⟨none, .load false 1 (.t 0), none⟩, ⟨none, .bin .eql 3 (.t 0) (.c (.int .i64 2)), none⟩, ⟨none, .mov (.t 0), none⟩, ⟨none, .faddr 0 (.v 3), some (0, false)⟩, ⟨none, .load false 1 (.t 0), some (1, false)⟩, ⟨none, .bin .eql 3 (.t 0) (.c (.int .i64 3)), some (2, false)⟩, ⟨none, .pick (.t 3) (.c (.bool true)) (.t 0), none⟩, ⟨some 12, .mov (.t 0), none⟩])
 (.cond (.v 12) (.seq (.reg [⟨none, .build [.int .i64 0, .int .i64 0] [(0, 1, .c (.int .i64 2))], none⟩, ⟨none, .store 2 (.v 4) (.t 0), none⟩])
 .ret)
 (.seq (.reg [⟨none, .faddr 0 (.v 3), none⟩, ⟨none, .load false 1 (.t 0), none⟩, ⟨none, .bin .eql 3 (.t 0) (.c (.int .i64 4)), none⟩, ⟨some 13, .mov (.t 0), none⟩])
 (.cond (.v 13) (.seq (.reg [⟨none, .mov (.v 2), none⟩, ⟨none, .faddr 1 (.v 3), none⟩, ⟨none, .load false 1 (.t 0), none⟩, ⟨none, .call (.c (.fn 100 [])) [.t 2, .t 0], none⟩, ⟨none, .mov (.t 0), none⟩, ⟨none, .ext (.t 0) 0, none⟩, ⟨none, .ext (.t 1) 1, none⟩, ⟨some 5, .alloc 55 [.int .i64 0, .int .i64 0], none⟩, ⟨none, .store 2 (.t 0) (.t 2), none⟩, ⟨some 6, .mov (.t 2), none⟩])
 (.seq (.seq (.reg [⟨none, .mov (.v 6), none⟩, ⟨some 14, .un .not (.t 0), none⟩])
 (.cond (.v 14) (.reg [⟨none, .mov (.v 0), none⟩, ⟨none, .faddr 4 (.v 3), none⟩, ⟨none, .load false 1 (.t 0), none⟩, ⟨none, .faddr 5 (.v 3), none⟩, ⟨none, .load false 1 (.t 0), none⟩, ⟨none, .call (.c (.fn 98 [])) [.t 4, .c (.int .i64 22), .t 2, .t 0], none⟩])
 (.seq (.reg [⟨none, .mov (.v 0), none⟩, ⟨none, .nilck (.t 0), none⟩, ⟨none, .faddr 1 (.t 0), none⟩, ⟨none, .load false 1 (.t 0), none⟩, ⟨none, .mov (.t 0), none⟩, ⟨none, .faddr 0 (.v 5), some (0, true)⟩, ⟨none, .load false 1 (.t 0), some (1, true)⟩, ⟨none, .bin .eql 3 (.t 0) (.c (.int .i64 3)), some (2, true)⟩, ⟨some 15, .pick (.t 3) (.t 0) (.c (.bool false)), none⟩])
 (.cond (.v 15) (.reg [⟨none, .mov (.v 0), none⟩, ⟨none, .faddr 4 (.v 3), none⟩, ⟨none, .load false 1 (.t 0), none⟩, ⟨none, .faddr 5 (.v 3), none⟩, ⟨none, .load false 1 (.t 0), none⟩, ⟨none, .call (.c (.fn 98 [])) [.t 4, .c (.int .i64 26), .t 2, .t 0], none⟩])
 .skip))))
 (.seq (.reg [⟨none, .load true 2 (.v 5), none⟩, ⟨none, .store 2 (.v 4) (.t 0), none⟩])
 .ret)))
 (.seq (.reg [⟨none, .faddr 0 (.v 3), none⟩, ⟨none, .load false 1 (.t 0), none⟩, ⟨none, .bin .eql 3 (.t 0) (.c (.int .i64 6)), none⟩, ⟨none, .mov (.t 0), none⟩, ⟨none, .faddr 0 (.v 3), some (0, false)⟩, ⟨none, .load false 1 (.t 0), some (1, false)⟩, ⟨none, .bin .geq 3 (.t 0) (.c (.int .i64 8)), some (2, false)⟩, ⟨none, .mov (.t 0), some (3, false)⟩, ⟨none, .faddr 0 (.v 3), some (0, true)⟩, ⟨none, .load false 1 (.t 0), some (1, true)⟩, ⟨none, .bin .leq 3 (.t 0) (.c (.int .i64 12)), some (2, true)⟩, ⟨none, .pick (.t 3) (.t 0) (.c (.bool false)), some (7, false)⟩, ⟨none, .pick (.t 8) (.c (.bool true)) (.t 0), none⟩, ⟨some 16, .mov (.t 0), none⟩])
 (.cond (.v 16) (.seq (.reg [⟨none, .mov (.v 0), none⟩, ⟨none, .faddr 3 (.v 3), none⟩, ⟨none, .load false 1 (.t 0), none⟩, ⟨none, .mov (.v 2), none⟩, ⟨none, .call (.c (.fn 161 [])) [.t 3, .t 1, .c (.int .i64 1), .t 0], none⟩])
 (.seq (.reg [⟨none, .build [.int .i64 0, .int .i64 0] [(0, 1, .c (.int .i64 1))], none⟩, ⟨none, .store 2 (.v 4) (.t 0), none⟩])
 .ret))
 (.seq (.reg [⟨none, .faddr 0 (.v 3), none⟩, ⟨none, .load false 1 (.t 0), none⟩, ⟨none, .bin .geq 3 (.t 0) (.c (.int .i64 15)), none⟩, ⟨none, .mov (.t 0), none⟩, ⟨none, .faddr 0 (.v 3), some (0, true)⟩, ⟨none, .load false 1 (.t 0), some (1, true)⟩, ⟨none, .bin .leq 3 (.t 0) (.c (.int .i64 18)), some (2, true)⟩, ⟨none, .pick (.t 3) (.t 0) (.c (.bool false)), none⟩, ⟨some 17, .mov (.t 0), none⟩])
 (.cond (.v 17) (.seq (.reg [⟨none, .mov (.v 0), none⟩, ⟨none, .faddr 3 (.v 3), none⟩, ⟨none, .load false 1 (.t 0), none⟩, ⟨none, .mov (.v 2), none⟩, ⟨none, .call (.c (.fn 161 [])) [.t 3, .t 1, .c (.int .i64 1), .t 0], none⟩])
 (.seq (.reg [⟨none, .build [.int .i64 0, .int .i64 0] [(0, 1, .c (.int .i64 2))], none⟩, ⟨none, .store 2 (.v 4) (.t 0), none⟩])
 .ret))
 (.seq (.reg [⟨none, .faddr 0 (.v 3), none⟩, ⟨none, .load false 1 (.t 0), none⟩, ⟨none, .bin .eql 3 (.t 0) (.c (.int .i64 7)), none⟩, ⟨none, .mov (.t 0), none⟩, ⟨none, .faddr 0 (.v 3), some (0, false)⟩, ⟨none, .load false 1 (.t 0), some (1, false)⟩, ⟨none, .bin .eql 3 (.t 0) (.c (.int .i64 19)), some (2, false)⟩, ⟨none, .pick (.t 3) (.c (.bool true)) (.t 0), none⟩, ⟨none, .mov (.t 0), none⟩, ⟨none, .faddr 0 (.v 3), some (0, false)⟩, ⟨none, .load false 1 (.t 0), some (1, false)⟩, ⟨none, .bin .eql 3 (.t 0) (.c (.int .i64 20)), some (2, false)⟩, ⟨none, .pick (.t 3) (.c (.bool true)) (.t 0), none⟩, ⟨some 18, .mov (.t 0), none⟩])
 (.cond (.v 18) (.seq (.reg [⟨none, .mov (.v 0), none⟩, ⟨none, .faddr 3 (.v 3), none⟩, ⟨none, .load false 1 (.t 0), none⟩, ⟨none, .mov (.v 2), none⟩, ⟨none, .call (.c (.fn 161 [])) [.t 3, .t 1, .c (.int .i64 2), .t 0], none⟩])
 (.seq (.reg [⟨none, .build [.int .i64 0, .int .i64 0] [(0, 1, .c (.int .i64 2))], none⟩, ⟨none, .store 2 (.v 4) (.t 0), none⟩])
 .ret))
 (.seq (.reg [⟨none, .faddr 0 (.v 3), none⟩, ⟨none, .load false 1 (.t 0), none⟩, ⟨none, .bin .eql 3 (.t 0) (.c (.int .i64 13)), none⟩, ⟨none, .mov (.t 0), none⟩, ⟨none, .faddr 0 (.v 3), some (0, false)⟩, ⟨none, .load false 1 (.t 0), some (1, false)⟩, ⟨none, .bin .eql 3 (.t 0) (.c (.int .i64 14)), some (2, false)⟩, ⟨none, .pick (.t 3) (.c (.bool true)) (.t 0), none⟩, ⟨some 19, .mov (.t 0), none⟩])
 (.cond (.v 19) (.seq (.reg [⟨none, .mov (.v 0), none⟩, ⟨none, .faddr 3 (.v 3), none⟩, ⟨none, .load false 1 (.t 0), none⟩, ⟨none, .iaddr 6 (.t 0) (.c (.int .i64 0)), none⟩, ⟨none, .load true 6 (.t 0), none⟩, ⟨none, .mov (.v 2), none⟩, ⟨none, .call (.c (.fn 136 [])) [.t 5, .t 1, .t 0], none⟩, ⟨some 7, .alloc 55 [.int .i64 0, .int .i64 0], none⟩, ⟨none, .store 2 (.t 0) (.t 1), none⟩])
 (.seq (.seq (.reg [⟨none, .mov (.v 0), none⟩, ⟨none, .nilck (.t 0), none⟩, ⟨none, .faddr 2 (.t 0), none⟩, ⟨none, .load false 1 (.t 0), none⟩, ⟨none, .bin .eql 3 (.t 0) (.c (.int .i64 0)), none⟩, ⟨none, .mov (.t 0), none⟩, ⟨none, .faddr 0 (.v 7), some (0, true)⟩, ⟨none, .load false 1 (.t 0), some (1, true)⟩, ⟨none, .bin .eql 3 (.t 0) (.c (.int .i64 3)), some (2, true)⟩, ⟨some 20, .pick (.t 3) (.t 0) (.c (.bool false)), none⟩])
 (.cond (.v 20) (.draw [⟨none, .mov (.v 0), none⟩, ⟨none, .faddr 3 (.v 3), none⟩, ⟨none, .load false 1 (.t 0), none⟩, ⟨none, .iaddr 6 (.t 0) (.c (.int .i64 0)), none⟩, ⟨none, .faddr 4 (.t 0), none⟩, ⟨none, .load false 1 (.t 0), none⟩, ⟨none, .faddr 3 (.v 3), none⟩, ⟨none, .load false 1 (.t 0), none⟩, ⟨none, .iaddr 6 (.t 0) (.c (.int .i64 0)), none⟩, ⟨none, .faddr 5 (.t 0), none⟩, ⟨none, .load false 1 (.t 0), none⟩, ⟨none, .call (.c (.fn 98 [])) [.t 10, .c (.int .i64 24), .t 5, .t 0], none⟩] [0, 0, 2, 6, 14, 30, 0, 64, 192, 448, 960, 2047] [])
 .skip))
 (.seq (.seq (.reg [⟨none, .mov (.v 0), none⟩, ⟨none, .nilck (.t 0), none⟩, ⟨none, .faddr 2 (.t 0), none⟩, ⟨none, .load false 1 (.t 0), none⟩, ⟨none, .bin .eql 3 (.t 0) (.c (.int .i64 0)), none⟩, ⟨none, .mov (.t 0), none⟩, ⟨none, .faddr 0 (.v 7), some (0, true)⟩, ⟨none, .load false 1 (.t 0), some (1, true)⟩, ⟨none, .bin .eql 3 (.t 0) (.c (.int .i64 2)), some (2, true)⟩, ⟨none, .pick (.t 3) (.t 0) (.c (.bool false)), none⟩, ⟨none, .mov (.t 0), none⟩, ⟨none, .mov (.v 0), some (0, true)⟩, ⟨none, .nilck (.t 0), some (1, true)⟩, ⟨none, .faddr 1 (.t 0), some (2, true)⟩, ⟨none, .load false 1 (.t 0), some (3, true)⟩, ⟨some 21, .pick (.t 4) (.t 0) (.c (.bool false)), none⟩])
 (.cond (.v 21) (.reg [⟨none, .mov (.v 0), none⟩, ⟨none, .faddr 4 (.v 3), none⟩, ⟨none, .load false 1 (.t 0), none⟩, ⟨none, .faddr 5 (.v 3), none⟩, ⟨none, .load false 1 (.t 0), none⟩, ⟨none, .call (.c (.fn 98 [])) [.t 4, .c (.int .i64 26), .t 2, .t 0], none⟩])
 .skip))
 (.seq (.draw [⟨none, .mov (.v 0), none⟩, ⟨none, .faddr 3 (.v 3), none⟩, ⟨none, .load false 1 (.t 0), none⟩, ⟨none, .iaddr 6 (.t 0) (.c (.int .i64 1)), none⟩, ⟨none, .load true 6 (.t 0), none⟩, ⟨none, .load true 2 (.v 7), none⟩, ⟨none, .mov (.v 2), none⟩, ⟨none, .call (.c (.fn 102 [])) [.t 6, .t 2, .t 1, .t 0], none⟩] [0, 0, 2, 6, 14, 0, 0, 127] [])
 (.seq (.reg [⟨none, .build [.int .i64 0, .int .i64 0] [(0, 1, .c (.int .i64 2))], none⟩, ⟨none, .store 2 (.v 4) (.t 0), none⟩])
 .ret)))))
 .skip)))))))))))))))
 (.seq (.reg [⟨none, .mov (.v 0), none⟩, ⟨none, .load true 6 (.v 3), none⟩, ⟨none, .mov (.v 2), none⟩, ⟨none, .call (.c (.fn 162 [])) [.t 2, .t 1, .t 0], none⟩, ⟨none, .store 2 (.v 4) (.t 0), none⟩])
 .ret)))))), [.cell 4 true 2]⟩
theorem Tryz.fok136 : FnOK Tryz.prog Tryz.tys 136 Tryz.c136 := fn_of (vt := Tryz.c136.vt) Tryz.func136 (by kernel_rfl) (by kernel_rfl)
/- whetstone/whetstoneref08.Words -/
noncomputable def Tryz.c137 : AFn := ⟨[0], (.seq (.reg [⟨some 0, .mov (.c (.nilSlc)), none⟩])
 (.seq (.reg [⟨none, .mkslc 9 1 22 [.str ⟨#[]⟩] [(0, .c (.str ⟨#[102, 110]⟩)), (1, .c (.str ⟨#[112, 117, 98]⟩)), (2, .c (.str ⟨#[113, 117, 97, 108]⟩)), (3, .c (.str ⟨#[108, 101, 116]⟩)), (4, .c (.str ⟨#[105, 110]⟩)), (5, .c (.str ⟨#[105, 102]⟩)), (6, .c (.str ⟨#[116, 104, 101, 110]⟩)), (7, .c (.str ⟨#[101, 108, 115, 101]⟩)), (8, .c (.str ⟨#[97, 115, 115, 101, 114, 116]⟩)), (9, .c (.str ⟨#[116, 114, 117, 101]⟩)), (10, .c (.str ⟨#[102, 97, 108, 115, 101]⟩)), (11, .c (.str ⟨#[105, 110, 116]⟩)), (12, .c (.str ⟨#[98, 111, 111, 108]⟩)), (13, .c (.str ⟨#[97, 114, 114]⟩)), (14, .c (.str ⟨#[103, 101, 116]⟩)), (15, .c (.str ⟨#[115, 101, 116]⟩)), (16, .c (.str ⟨#[108, 101, 110]⟩)), (17, .c (.str ⟨#[102, 105, 108, 108]⟩)), (18, .c (.str ⟨#[110, 111, 116]⟩)), (19, .c (.str ⟨#[97, 110, 100]⟩)), (20, .c (.str ⟨#[111, 114]⟩)), (21, .c (.str ⟨#[118]⟩))], none⟩, ⟨some 0, .mov (.t 0), none⟩])
 .ret)), [.tmp 0]⟩
theorem Tryz.fok137 : FnOK Tryz.prog Tryz.tys 137 Tryz.c137 := fn_of (vt := Tryz.c137.vt) Tryz.func137 (by kernel_rfl) (by kernel_rfl)
/- (*whetstone/whetstoneref09.Reader).places -/
noncomputable def Tryz.c138 : AFn := ⟨[0, 2, 3, 4, 5, 17, 24, 42], (.seq (.reg [⟨some 1, .mov (.c (.int .i64 0)), none⟩])
 (.seq (.reg [⟨none, .mov (.v 0), none⟩, ⟨none, .call (.c (.fn 72 [])) [.t 0], none⟩, ⟨some 2, .alloc 185 [.int .i64 0, .str ⟨#[]⟩, .int .i64 0, .int .i64 0], none⟩, ⟨none, .store 4 (.t 0) (.t 1), none⟩])
 (.seq (.seq (.reg [⟨none, .mov (.v 0), none⟩, ⟨none, .nilck (.t 0), none⟩, ⟨none, .faddr 3 (.t 0), none⟩, ⟨none, .load false 1 (.t 0), none⟩, ⟨none, .bin .eql 3 (.t 0) (.c (.int .i64 0)), none⟩, ⟨none, .mov (.t 0), none⟩, ⟨none, .faddr 0 (.v 2), some (0, true)⟩, ⟨none, .load false 1 (.t 0), some (1, true)⟩, ⟨none, .bin .neq 3 (.t 0) (.c (.int .i64 3)), some (2, true)⟩, ⟨some 5, .pick (.t 3) (.t 0) (.c (.bool false)), none⟩])
 (.cond (.v 5) (.reg [⟨none, .mov (.v 0), none⟩, ⟨none, .call (.c (.fn 108 [])) [.t 0], none⟩])
 .skip))
 (.seq (.seq (.reg [⟨none, .mov (.v 0), none⟩, ⟨none, .nilck (.t 0), none⟩, ⟨none, .faddr 3 (.t 0), none⟩, ⟨none, .load false 1 (.t 0), none⟩, ⟨some 6, .bin .neq 3 (.t 0) (.c (.int .i64 0)), none⟩])
 (.cond (.v 6) (.seq (.reg [⟨some 1, .mov (.c (.int .i64 0)), none⟩])
 .ret)
 .skip))
 (.seq (.reg [⟨none, .faddr 1 (.v 2), none⟩, ⟨none, .load false 1 (.t 0), none⟩, ⟨none, .call (.c (.fn 163 [])) [.t 0], none⟩, ⟨none, .mov (.t 0), none⟩, ⟨none, .ext (.t 0) 0, none⟩, ⟨none, .ext (.t 1) 1, none⟩, ⟨some 3, .mov (.t 1), none⟩, ⟨some 4, .mov (.t 1), none⟩])
 (.seq (.seq (.reg [⟨none, .mov (.v 4), none⟩, ⟨none, .bin .neq 3 (.t 0) (.c (.int .i64 0)), none⟩, ⟨none, .mov (.t 0), none⟩, ⟨none, .mov (.v 3), some (0, false)⟩, ⟨none, .lenV (.t 0), some (1, false)⟩, ⟨none, .bin .gtr 3 (.t 0) (.c (.int .i64 7)), some (2, false)⟩, ⟨none, .pick (.t 3) (.c (.bool true)) (.t 0), none⟩, ⟨none, .mov (.t 0), none⟩, ⟨none, .mov (.v 3), some (0, false)⟩, ⟨none, .call (.c (.fn 164 [])) [.t 0], some (1, false)⟩, ⟨none, .bin .gtr 89 (.t 0) (.c (.int .u64 1000000)), some (2, false)⟩, ⟨some 7, .pick (.t 3) (.c (.bool true)) (.t 0), none⟩])
 (.cond (.v 7) (.seq (.reg [⟨none, .mov (.v 0), none⟩, ⟨none, .load true 4 (.v 2), none⟩, ⟨none, .call (.c (.fn 73 [])) [.t 1, .c (.int .i64 3), .t 0], none⟩])
 (.seq (.reg [⟨some 1, .mov (.c (.int .i64 0)), none⟩])
 .ret))
 .skip))
 (.seq (.reg [⟨none, .mov (.v 0), none⟩, ⟨none, .nilck (.t 0), none⟩, ⟨none, .faddr 1 (.t 0), none⟩, ⟨none, .load false 1 (.t 0), none⟩, ⟨none, .bin .add 3 (.t 0) (.c (.int .i64 1)), none⟩, ⟨none, .nilck (.t 4), none⟩, ⟨none, .faddr 1 (.t 0), none⟩, ⟨none, .store 1 (.t 0) (.t 2), none⟩])
 (.seq (.reg [⟨none, .mov (.v 3), none⟩, ⟨none, .call (.c (.fn 164 [])) [.t 0], none⟩, ⟨none, .conv .i64 (.t 0), none⟩, ⟨some 1, .mov (.t 0), none⟩])
 .ret)))))))), [.tmp 1]⟩
theorem Tryz.fok138 : FnOK Tryz.prog Tryz.tys 138 Tryz.c138 := fn_of (vt := Tryz.c138.vt) Tryz.func138 (by kernel_rfl) (by kernel_rfl)
/- (*whetstone/whetstoneref09.Reader).last -/
noncomputable def Tryz.c139 : AFn := ⟨[0, 2, 7], (.seq (.reg [⟨some 1, .mov (.c (.int .i64 0)), none⟩])
 (.seq (.seq (.reg [⟨none, .mov (.v 0), none⟩, ⟨none, .nilck (.t 0), none⟩, ⟨none, .faddr 1 (.t 0), none⟩, ⟨none, .load false 1 (.t 0), none⟩, ⟨some 2, .bin .eql 3 (.t 0) (.c (.int .i64 0)), none⟩])
 (.cond (.v 2) (.seq (.reg [⟨some 1, .mov (.c (.int .i64 0)), none⟩])
 .ret)
 .skip))
 (.seq (.draw [⟨none, .mov (.v 0), none⟩, ⟨none, .nilck (.t 0), none⟩, ⟨none, .faddr 0 (.t 0), none⟩, ⟨none, .load false 1 (.t 0), none⟩, ⟨none, .mov (.v 0), none⟩, ⟨none, .nilck (.t 0), none⟩, ⟨none, .faddr 1 (.t 0), none⟩, ⟨none, .load false 1 (.t 0), none⟩, ⟨none, .bin .sub 3 (.t 0) (.c (.int .i64 1)), none⟩, ⟨none, .iaddr 4 (.t 5) (.t 0), none⟩, ⟨none, .faddr 3 (.t 0), none⟩, ⟨none, .load false 1 (.t 0), none⟩, ⟨some 1, .mov (.t 0), none⟩] [0, 1, 3, 7, 0, 16, 48, 112, 240, 511, 1023, 2047, 4095] [])
 .ret))), [.tmp 1]⟩
theorem Tryz.fok139 : FnOK Tryz.prog Tryz.tys 139 Tryz.c139 := fn_of (vt := Tryz.c139.vt) Tryz.func139 (by kernel_rfl) (by kernel_rfl)
/- (*whetstone/whetstoneref09.Reader).part -/
noncomputable def Tryz.c140 : AFn := ⟨[0, 2, 3, 4, 5, 6, 13, 19, 28], (.seq (.reg [⟨some 1, .alloc 49 [.int .i64 0, .str ⟨#[]⟩, .str ⟨#[]⟩, .nilSlc, .int .i64 0, .int .i64 0], none⟩])
 (.seq (.reg [⟨none, .mov (.v 0), none⟩, ⟨none, .call (.c (.fn 110 [])) [.t 0], none⟩])
 (.seq (.seq (.reg [⟨none, .mov (.v 0), none⟩, ⟨none, .nilck (.t 0), none⟩, ⟨none, .faddr 3 (.t 0), none⟩, ⟨none, .load false 1 (.t 0), none⟩, ⟨some 6, .bin .neq 3 (.t 0) (.c (.int .i64 0)), none⟩])
 (.cond (.v 6) (.seq (.reg [⟨none, .build [.int .i64 0, .str ⟨#[]⟩, .str ⟨#[]⟩, .nilSlc, .int .i64 0, .int .i64 0] [], none⟩, ⟨none, .store 6 (.v 1) (.t 0), none⟩])
 .ret)
 .skip))
 (.seq (.reg [⟨none, .mov (.v 0), none⟩, ⟨none, .call (.c (.fn 72 [])) [.t 0], none⟩, ⟨none, .fld 2 1 false (.t 0), none⟩, ⟨some 2, .mov (.t 0), none⟩])
 (.seq (.reg [⟨some 3, .alloc 49 [.int .i64 0, .str ⟨#[]⟩, .str ⟨#[]⟩, .nilSlc, .int .i64 0, .int .i64 0], none⟩])
 (.seq (.seq (.reg [⟨none, .mov (.v 0), none⟩, ⟨some 7, .call (.c (.fn 67 [])) [.t 0, .c (.str ⟨#[45]⟩)], none⟩])
 (.cond (.v 7) (.seq (.reg [⟨none, .mov (.v 0), none⟩, ⟨none, .call (.c (.fn 140 [])) [.t 0], none⟩, ⟨some 4, .alloc 49 [.int .i64 0, .str ⟨#[]⟩, .str ⟨#[]⟩, .nilSlc, .int .i64 0, .int .i64 0], none⟩, ⟨none, .store 6 (.t 0) (.t 1), none⟩])
 (.reg [⟨none, .mov (.v 0), none⟩, ⟨none, .mov (.v 2), none⟩, ⟨none, .load true 6 (.v 4), none⟩, ⟨none, .mkslc 49 6 1 [.int .i64 0, .str ⟨#[]⟩, .str ⟨#[]⟩, .nilSlc, .int .i64 0, .int .i64 0] [(0, .t 0)], none⟩, ⟨none, .call (.c (.fn 112 [])) [.t 3, .c (.int .i64 6), .t 2, .t 0], none⟩, ⟨none, .store 6 (.v 3) (.t 0), none⟩]))
 (.seq (.reg [⟨none, .mov (.v 0), none⟩, ⟨some 8, .call (.c (.fn 67 [])) [.t 0, .c (.str ⟨#[110, 111, 116]⟩)], none⟩])
 (.cond (.v 8) (.seq (.reg [⟨none, .mov (.v 0), none⟩, ⟨none, .call (.c (.fn 140 [])) [.t 0], none⟩, ⟨some 5, .alloc 49 [.int .i64 0, .str ⟨#[]⟩, .str ⟨#[]⟩, .nilSlc, .int .i64 0, .int .i64 0], none⟩, ⟨none, .store 6 (.t 0) (.t 1), none⟩])
 (.reg [⟨none, .mov (.v 0), none⟩, ⟨none, .mov (.v 2), none⟩, ⟨none, .load true 6 (.v 5), none⟩, ⟨none, .mkslc 49 6 1 [.int .i64 0, .str ⟨#[]⟩, .str ⟨#[]⟩, .nilSlc, .int .i64 0, .int .i64 0] [(0, .t 0)], none⟩, ⟨none, .call (.c (.fn 112 [])) [.t 3, .c (.int .i64 7), .t 2, .t 0], none⟩, ⟨none, .store 6 (.v 3) (.t 0), none⟩]))
 (.reg [⟨none, .mov (.v 0), none⟩, ⟨none, .call (.c (.fn 165 [])) [.t 0], none⟩, ⟨none, .store 6 (.v 3) (.t 0), none⟩])))))
 (.seq (.reg [⟨none, .mov (.v 0), none⟩, ⟨none, .nilck (.t 0), none⟩, ⟨none, .faddr 2 (.t 0), none⟩, ⟨none, .load false 1 (.t 0), none⟩, ⟨none, .bin .sub 3 (.t 0) (.c (.int .i64 1)), none⟩, ⟨none, .nilck (.t 4), none⟩, ⟨none, .faddr 2 (.t 0), none⟩, ⟨none, .store 1 (.t 0) (.t 2), none⟩])
 (.seq (.reg [⟨none, .load true 6 (.v 3), none⟩, ⟨none, .store 6 (.v 1) (.t 0), none⟩])
 .ret)))))))), [.cell 1 true 6]⟩
theorem Tryz.fok140 : FnOK Tryz.prog Tryz.tys 140 Tryz.c140 := fn_of (vt := Tryz.c140.vt) Tryz.func140 (by kernel_rfl) (by kernel_rfl)
/- (*whetstone/whetstoneref09.Reader).sign -/
noncomputable def Tryz.c141k0 : ACode := (.seq (.seq (.reg [⟨none, .mov (.v 5), none⟩, ⟨none, .mov (.v 3), none⟩, ⟨none, .lenV (.t 0), none⟩, ⟨some 6, .bin .lss 3 (.t 2) (.t 0), none⟩])
 (.cond (.v 6) .skip
 (.exit 0)))
 (.seq (.block 1 (.seq (.reg [⟨none, .mov (.v 0), none⟩, ⟨none, .mov (.v 3), none⟩, ⟨none, .mov (.v 5), none⟩, ⟨none, .iaddr 1 (.t 1) (.t 0), none⟩, ⟨none, .load false 1 (.t 0), none⟩, ⟨some 7, .call (.c (.fn 106 [])) [.t 4, .t 0], none⟩])
 (.cond (.v 7) (.seq (.reg [⟨none, .mov (.v 4), none⟩, ⟨none, .mov (.v 5), none⟩, ⟨none, .iaddr 1 (.t 1) (.t 0), none⟩, ⟨none, .load false 1 (.t 0), none⟩, ⟨some 2, .mov (.t 0), none⟩])
 .ret)
 .skip)))
 (.reg [⟨none, .mov (.v 5), none⟩, ⟨none, .bin .add 3 (.t 0) (.c (.int .i64 1)), none⟩, ⟨some 5, .mov (.t 0), none⟩])))
noncomputable def Tryz.c141 : AFn := ⟨[0, 1, 4, 5, 6, 7, 16, 24], (.seq (.reg [⟨some 2, .mov (.c (.int .i64 0)), none⟩])
 (.seq (.reg [⟨none, .mov (.v 1), none⟩, ⟨none, .call (.c (.fn 166 [])) [.t 0], none⟩, ⟨none, .mov (.t 0), none⟩, ⟨none, .ext (.t 0) 0, none⟩, ⟨none, .ext (.t 1) 1, none⟩, ⟨some 3, .mov (.t 1), none⟩, ⟨some 4, .mov (.t 1), none⟩])
 (.seq (.seq (.reg [⟨some 5, .mov (.c (.int .i64 0)), none⟩])
 (.block 0 (.loop Tryz.c141k0)))
 (.seq (.reg [⟨some 2, .mov (.c (.int .i64 0)), none⟩])
 .ret)))), [.tmp 2]⟩
theorem Tryz.fok141 : FnOK Tryz.prog Tryz.tys 141 Tryz.c141 := fn_of (vt := Tryz.c141.vt) Tryz.func141 (by kernel_rfl) (by kernel_rfl)
/- (*whetstone/base.checker).plain -/
noncomputable def Tryz.c142 : AFn := ⟨[0, 1, 3, 8, 10, 11, 25, 40], (.seq (.reg [⟨some 2, .box 40 (.v 1), none⟩])
 (.seq (.seq (.reg [⟨none, .mov (.v 0), none⟩, ⟨none, .nilck (.t 0), none⟩, ⟨none, .faddr 2 (.t 0), none⟩, ⟨none, .load false 1 (.t 0), none⟩, ⟨some 3, .un .not (.t 0), none⟩])
 (.cond (.v 3) .ret
 .skip))
 (.seq (.reg [⟨none, .faddr 0 (.v 2), none⟩, ⟨some 4, .load false 1 (.t 0), none⟩])
 (.block 0 (.seq (.seq (.reg [⟨none, .bin .eql 3 (.v 4) (.c (.int .i64 5)), none⟩, ⟨some 5, .mov (.t 0), none⟩])
 (.cond (.v 5) .skip
 (.seq (.reg [⟨none, .bin .eql 3 (.v 4) (.c (.int .i64 11)), none⟩, ⟨some 5, .mov (.t 0), none⟩])
 (.cond (.v 5) .skip
 (.seq (.reg [⟨none, .bin .eql 3 (.v 4) (.c (.int .i64 12)), none⟩, ⟨some 5, .mov (.t 0), none⟩])
 (.cond (.v 5) .skip
 (.seq (.reg [⟨none, .bin .eql 3 (.v 4) (.c (.int .i64 21)), none⟩, ⟨some 5, .mov (.t 0), none⟩])
 (.cond (.v 5) .skip
 (.seq (.reg [⟨none, .bin .eql 3 (.v 4) (.c (.int .i64 22)), none⟩, ⟨some 5, .mov (.t 0), none⟩])
 (.cond (.v 5) .skip
 (.seq (.reg [⟨none, .bin .eql 3 (.v 4) (.c (.int .i64 23)), none⟩, ⟨some 5, .mov (.t 0), none⟩])
 (.cond (.v 5) .skip
 (.seq (.reg [⟨none, .bin .eql 3 (.v 4) (.c (.int .i64 24)), none⟩, ⟨some 5, .mov (.t 0), none⟩])
 (.cond (.v 5) .skip
 (.seq (.reg [⟨none, .bin .eql 3 (.v 4) (.c (.int .i64 25)), none⟩, ⟨some 5, .mov (.t 0), none⟩])
 (.cond (.v 5) .skip
 (.seq (.reg [⟨none, .bin .eql 3 (.v 4) (.c (.int .i64 26)), none⟩, ⟨some 5, .mov (.t 0), none⟩])
 (.cond (.v 5) .skip
 (.reg [⟨none, .bin .eql 3 (.v 4) (.c (.int .i64 27)), none⟩, ⟨some 5, .mov (.t 0), none⟩])))))))))))))))))))
 (.cond (.v 5) (.reg [⟨none, .faddr 5 (.v 2), none⟩, ⟨none, .load true 2 (.t 0), none⟩, ⟨none, .call (.c (.fn 74 [])) [.t 0, .c (.int .i64 26)], none⟩])
 (.seq (.reg [⟨none, .bin .eql 3 (.v 4) (.c (.int .i64 10)), none⟩, ⟨some 6, .mov (.t 0), none⟩])
 (.cond (.v 6) (.seq (.reg [⟨none, .faddr 4 (.v 2), none⟩, ⟨none, .load false 1 (.t 0), none⟩, ⟨none, .iaddr 7 (.t 0) (.c (.int .i64 0)), none⟩, ⟨none, .load true 7 (.t 0), none⟩, ⟨none, .call (.c (.fn 17 [])) [.t 0], none⟩, ⟨none, .un .not (.t 0), none⟩, ⟨none, .mov (.t 0), none⟩, ⟨none, .faddr 4 (.v 2), some (0, true)⟩, ⟨none, .load false 1 (.t 0), some (1, true)⟩, ⟨none, .iaddr 7 (.t 0) (.c (.int .i64 1)), some (2, true)⟩, ⟨none, .load true 7 (.t 0), some (3, true)⟩, ⟨none, .call (.c (.fn 17 [])) [.t 0], some (4, true)⟩, ⟨none, .un .not (.t 0), some (5, true)⟩, ⟨some 7, .pick (.t 6) (.t 0) (.c (.bool false)), none⟩])
 (.cond (.v 7) (.reg [⟨none, .faddr 5 (.v 2), none⟩, ⟨none, .load true 2 (.t 0), none⟩, ⟨none, .call (.c (.fn 74 [])) [.t 0, .c (.int .i64 26)], none⟩])
 .skip))
 .skip)))))))), []⟩
theorem Tryz.fok142 : FnOK Tryz.prog Tryz.tys 142 Tryz.c142 := fn_of (vt := Tryz.c142.vt) Tryz.func142 (by kernel_rfl) (by kernel_rfl)
/- whetstone/base.number -/
noncomputable def Tryz.c143 : AFn := ⟨[0], (.seq (.reg [⟨some 0, .alloc 53 [.int .i64 0, .int .i64 0], none⟩])
 (.seq (.reg [⟨none, .build [.int .i64 0, .int .i64 0] [(0, 1, .c (.int .i64 1))], none⟩, ⟨none, .store 2 (.v 0) (.t 0), none⟩])
 .ret)), [.cell 0 true 2]⟩
theorem Tryz.fok143 : FnOK Tryz.prog Tryz.tys 143 Tryz.c143 := fn_of (vt := Tryz.c143.vt) Tryz.func143 (by kernel_rfl) (by kernel_rfl)
/- (*whetstone/base.checker).all -/
noncomputable def Tryz.c144k0 : ACode := (.seq (.reg [⟨some 8, .bin .lss 3 (.v 7) (.v 6), none⟩])
 (.seq (.cond (.v 8) .skip
 (.exit 0))
 (.seq (.block 1 (.seq (.reg [⟨none, .iaddr 7 (.v 5) (.v 7), none⟩, ⟨none, .load true 7 (.t 0), none⟩, ⟨some 4, .alloc 40 [.int .i64 0, .str ⟨#[]⟩, .bool false, .nilSlc, .nilSlc, .int .i64 0, .int .i64 0], none⟩, ⟨none, .store 7 (.t 0) (.t 1), none⟩])
 (.reg [⟨none, .mov (.v 0), none⟩, ⟨none, .load true 7 (.v 4), none⟩, ⟨none, .load true 2 (.v 3), none⟩, ⟨none, .call (.c (.fn 77 [])) [.t 2, .t 1, .t 0], none⟩])))
 (.reg [⟨none, .bin .add 3 (.v 7) (.c (.int .i64 1)), none⟩, ⟨some 7, .mov (.t 0), none⟩]))))
noncomputable def Tryz.c144 : AFn := ⟨[0, 1, 2, 5, 7, 8, 9, 10, 11], (.seq (.reg [⟨some 3, .box 53 (.v 2), none⟩])
 (.seq (.reg [⟨some 5, .mov (.v 1), none⟩, ⟨some 6, .lenV (.t 0), none⟩, ⟨some 7, .mov (.c (.int .i64 0)), none⟩])
 (.block 0 (.loop Tryz.c144k0)))), []⟩
theorem Tryz.fok144 : FnOK Tryz.prog Tryz.tys 144 Tryz.c144 := fn_of (vt := Tryz.c144.vt) Tryz.func144 (by kernel_rfl) (by kernel_rfl)
/- (*whetstone/base.checker).more -/
noncomputable def Tryz.c145 : AFn := ⟨[0, 1, 3, 4, 5, 6, 7, 8, 10, 11, 16, 52, 75, 90, 106, 129], (.seq (.reg [⟨some 2, .box 40 (.v 1), none⟩, ⟨some 3, .alloc 53 [.int .i64 0, .int .i64 0], none⟩])
 (.seq (.seq (.reg [⟨none, .faddr 0 (.v 2), none⟩, ⟨some 8, .load false 1 (.t 0), none⟩])
 (.block 0 (.seq (.reg [⟨none, .bin .eql 3 (.v 8) (.c (.int .i64 5)), none⟩, ⟨some 9, .mov (.t 0), none⟩])
 (.cond (.v 9) (.seq (.reg [⟨none, .mov (.v 0), none⟩, ⟨none, .load true 7 (.v 2), none⟩, ⟨none, .call (.c (.fn 167 [])) [.t 1, .t 0], none⟩, ⟨none, .store 2 (.v 3) (.t 0), none⟩])
 .ret)
 (.seq (.reg [⟨none, .bin .eql 3 (.v 8) (.c (.int .i64 21)), none⟩, ⟨some 10, .mov (.t 0), none⟩])
 (.cond (.v 10) (.seq (.reg [⟨none, .mov (.v 0), none⟩, ⟨none, .faddr 4 (.v 2), none⟩, ⟨none, .load false 1 (.t 0), none⟩, ⟨none, .iaddr 7 (.t 0) (.c (.int .i64 0)), none⟩, ⟨none, .load true 7 (.t 0), none⟩, ⟨none, .call (.c (.fn 114 [])) [.t 4, .t 0], none⟩, ⟨some 4, .alloc 53 [.int .i64 0, .int .i64 0], none⟩, ⟨none, .store 2 (.t 0) (.t 1), none⟩])
 (.seq (.reg [⟨none, .mov (.v 0), none⟩, ⟨none, .faddr 5 (.v 2), none⟩, ⟨none, .load true 2 (.t 0), none⟩, ⟨none, .faddr 1 (.v 2), none⟩, ⟨none, .load false 1 (.t 0), none⟩, ⟨none, .load true 2 (.v 4), none⟩, ⟨none, .call (.c (.fn 76 [])) [.t 5, .t 3, .t 1, .t 0], none⟩])
 (.seq (.reg [⟨none, .mov (.v 0), none⟩, ⟨none, .faddr 4 (.v 2), none⟩, ⟨none, .load false 1 (.t 0), none⟩, ⟨none, .iaddr 7 (.t 0) (.c (.int .i64 1)), none⟩, ⟨none, .load true 7 (.t 0), none⟩, ⟨none, .call (.c (.fn 114 [])) [.t 4, .t 0], none⟩, ⟨some 5, .alloc 53 [.int .i64 0, .int .i64 0], none⟩, ⟨none, .store 2 (.t 0) (.t 1), none⟩])
 (.seq (.draw [⟨none, .mov (.v 0), none⟩, ⟨none, .mov (.v 0), none⟩, ⟨none, .nilck (.t 0), none⟩, ⟨none, .faddr 1 (.t 0), none⟩, ⟨none, .load false 1 (.t 0), none⟩, ⟨none, .mov (.v 0), none⟩, ⟨none, .nilck (.t 0), none⟩, ⟨none, .faddr 1 (.t 0), none⟩, ⟨none, .load false 1 (.t 0), none⟩, ⟨none, .lenV (.t 0), none⟩, ⟨none, .bin .sub 3 (.t 0) (.c (.int .i64 1)), none⟩, ⟨none, .sliceV 3 (.t 6) none (some (.t 0)), none⟩, ⟨none, .nilck (.t 11), none⟩, ⟨none, .faddr 1 (.t 0), none⟩, ⟨none, .store 1 (.t 0) (.t 2), none⟩] [0, 0, 2, 6, 14, 0, 32, 96, 224, 480, 992, 2046, 4095, 8191, 16383] [])
 (.seq (.reg [⟨none, .load true 2 (.v 5), none⟩, ⟨none, .store 2 (.v 3) (.t 0), none⟩])
 .ret)))))
 (.seq (.reg [⟨none, .bin .eql 3 (.v 8) (.c (.int .i64 22)), none⟩, ⟨some 11, .mov (.t 0), none⟩])
 (.cond (.v 11) (.seq (.draw [⟨none, .mov (.v 0), none⟩, ⟨none, .faddr 4 (.v 2), none⟩, ⟨none, .load false 1 (.t 0), none⟩, ⟨none, .iaddr 7 (.t 0) (.c (.int .i64 0)), none⟩, ⟨none, .load true 7 (.t 0), none⟩, ⟨none, .call (.c (.fn 78 [])) [], none⟩, ⟨none, .call (.c (.fn 77 [])) [.t 5, .t 1, .t 0], none⟩] [0, 0, 2, 6, 14, 0, 63] [(2, [6]), (4, [6])])
 (.seq (.reg [⟨none, .mov (.v 0), none⟩, ⟨none, .faddr 4 (.v 2), none⟩, ⟨none, .load false 1 (.t 0), none⟩, ⟨none, .iaddr 7 (.t 0) (.c (.int .i64 1)), none⟩, ⟨none, .load true 7 (.t 0), none⟩, ⟨none, .call (.c (.fn 114 [])) [.t 4, .t 0], none⟩, ⟨some 6, .alloc 53 [.int .i64 0, .int .i64 0], none⟩, ⟨none, .store 2 (.t 0) (.t 1), none⟩])
 (.seq (.draw [⟨none, .mov (.v 0), none⟩, ⟨none, .faddr 4 (.v 2), none⟩, ⟨none, .load false 1 (.t 0), none⟩, ⟨none, .iaddr 7 (.t 0) (.c (.int .i64 2)), none⟩, ⟨none, .load true 7 (.t 0), none⟩, ⟨none, .load true 2 (.v 6), none⟩, ⟨none, .call (.c (.fn 77 [])) [.t 5, .t 1, .t 0], none⟩] [0, 0, 2, 6, 14, 0, 63] [])
 (.seq (.reg [⟨none, .load true 2 (.v 6), none⟩, ⟨none, .store 2 (.v 3) (.t 0), none⟩])
 .ret))))
 (.seq (.reg [⟨none, .bin .eql 3 (.v 8) (.c (.int .i64 23)), none⟩, ⟨some 12, .mov (.t 0), none⟩])
 (.cond (.v 12) (.seq (.draw [⟨none, .mov (.v 0), none⟩, ⟨none, .faddr 4 (.v 2), none⟩, ⟨none, .load false 1 (.t 0), none⟩, ⟨none, .iaddr 7 (.t 0) (.c (.int .i64 0)), none⟩, ⟨none, .load true 7 (.t 0), none⟩, ⟨none, .call (.c (.fn 78 [])) [], none⟩, ⟨none, .call (.c (.fn 77 [])) [.t 5, .t 1, .t 0], none⟩] [0, 0, 2, 6, 14, 0, 63] [(2, [6]), (4, [6])])
 (.seq (.reg [⟨none, .mov (.v 0), none⟩, ⟨none, .faddr 4 (.v 2), none⟩, ⟨none, .load false 1 (.t 0), none⟩, ⟨none, .iaddr 7 (.t 0) (.c (.int .i64 1)), none⟩, ⟨none, .load true 7 (.t 0), none⟩, ⟨none, .call (.c (.fn 114 [])) [.t 4, .t 0], none⟩, ⟨none, .store 2 (.v 3) (.t 0), none⟩])
 .ret))
 (.seq (.reg [⟨none, .bin .eql 3 (.v 8) (.c (.int .i64 24)), none⟩, ⟨some 13, .mov (.t 0), none⟩])
 (.cond (.v 13) (.seq (.reg [⟨none, .mov (.v 0), none⟩, ⟨none, .faddr 4 (.v 2), none⟩, ⟨none, .load false 1 (.t 0), none⟩, ⟨none, .iaddr 7 (.t 0) (.c (.int .i64 0)), none⟩, ⟨none, .load true 7 (.t 0), none⟩, ⟨none, .call (.c (.fn 168 [])) [.t 4, .t 0], none⟩])
 (.seq (.draw [⟨none, .mov (.v 0), none⟩, ⟨none, .faddr 4 (.v 2), none⟩, ⟨none, .load false 1 (.t 0), none⟩, ⟨none, .iaddr 7 (.t 0) (.c (.int .i64 1)), none⟩, ⟨none, .load true 7 (.t 0), none⟩, ⟨none, .call (.c (.fn 143 [])) [], none⟩, ⟨none, .call (.c (.fn 77 [])) [.t 5, .t 1, .t 0], none⟩] [0, 0, 2, 6, 14, 0, 63] [(2, [6]), (4, [6])])
 (.seq (.reg [⟨none, .call (.c (.fn 143 [])) [], none⟩, ⟨none, .store 2 (.v 3) (.t 0), none⟩])
 .ret)))
 (.seq (.reg [⟨none, .bin .eql 3 (.v 8) (.c (.int .i64 25)), none⟩, ⟨some 14, .mov (.t 0), none⟩])
 (.cond (.v 14) (.seq (.reg [⟨none, .mov (.v 0), none⟩, ⟨none, .faddr 4 (.v 2), none⟩, ⟨none, .load false 1 (.t 0), none⟩, ⟨none, .iaddr 7 (.t 0) (.c (.int .i64 0)), none⟩, ⟨none, .load true 7 (.t 0), none⟩, ⟨none, .call (.c (.fn 168 [])) [.t 4, .t 0], none⟩, ⟨some 7, .alloc 53 [.int .i64 0, .int .i64 0], none⟩, ⟨none, .store 2 (.t 0) (.t 1), none⟩])
 (.seq (.draw [⟨none, .mov (.v 0), none⟩, ⟨none, .faddr 4 (.v 2), none⟩, ⟨none, .load false 1 (.t 0), none⟩, ⟨none, .iaddr 7 (.t 0) (.c (.int .i64 1)), none⟩, ⟨none, .load true 7 (.t 0), none⟩, ⟨none, .call (.c (.fn 143 [])) [], none⟩, ⟨none, .call (.c (.fn 77 [])) [.t 5, .t 1, .t 0], none⟩] [0, 0, 2, 6, 14, 0, 63] [(2, [6]), (4, [6])])
 (.seq (.draw [⟨none, .mov (.v 0), none⟩, ⟨none, .faddr 4 (.v 2), none⟩, ⟨none, .load false 1 (.t 0), none⟩, ⟨none, .iaddr 7 (.t 0) (.c (.int .i64 2)), none⟩, ⟨none, .load true 7 (.t 0), none⟩, ⟨none, .call (.c (.fn 143 [])) [], none⟩, ⟨none, .call (.c (.fn 77 [])) [.t 5, .t 1, .t 0], none⟩] [0, 0, 2, 6, 14, 0, 63] [(2, [6]), (4, [6])])
 (.seq (.reg [⟨none, .load true 2 (.v 7), none⟩, ⟨none, .store 2 (.v 3) (.t 0), none⟩])
 .ret))))
 (.seq (.reg [⟨none, .bin .eql 3 (.v 8) (.c (.int .i64 26)), none⟩, ⟨some 15, .mov (.t 0), none⟩])
 (.cond (.v 15) (.seq (.reg [⟨none, .mov (.v 0), none⟩, ⟨none, .faddr 4 (.v 2), none⟩, ⟨none, .load false 1 (.t 0), none⟩, ⟨none, .iaddr 7 (.t 0) (.c (.int .i64 0)), none⟩, ⟨none, .load true 7 (.t 0), none⟩, ⟨none, .call (.c (.fn 168 [])) [.t 4, .t 0], none⟩])
 (.seq (.reg [⟨none, .call (.c (.fn 143 [])) [], none⟩, ⟨none, .store 2 (.v 3) (.t 0), none⟩])
 .ret))
 .skip))))))))))))))))
 (.seq (.draw [⟨none, .mov (.v 0), none⟩, ⟨none, .faddr 4 (.v 2), none⟩, ⟨none, .load false 1 (.t 0), none⟩, ⟨none, .iaddr 7 (.t 0) (.c (.int .i64 0)), none⟩, ⟨none, .load true 7 (.t 0), none⟩, ⟨none, .call (.c (.fn 143 [])) [], none⟩, ⟨none, .call (.c (.fn 77 [])) [.t 5, .t 1, .t 0], none⟩] [0, 0, 2, 6, 14, 0, 63] [(2, [6]), (4, [6])])
 (.seq (.reg [⟨none, .load true 7 (.v 2), none⟩, ⟨none, .call (.c (.fn 169 [])) [.t 0], none⟩, ⟨none, .build [.int .i64 0, .int .i64 0] [(0, 1, .c (.int .i64 3)), (1, 1, .t 0)], none⟩, ⟨none, .store 2 (.v 3) (.t 0), none⟩])
 .ret)))), [.cell 3 true 2]⟩
theorem Tryz.fok145 : FnOK Tryz.prog Tryz.tys 145 Tryz.c145 := fn_of (vt := Tryz.c145.vt) Tryz.func145 (by kernel_rfl) (by kernel_rfl)
end AM
