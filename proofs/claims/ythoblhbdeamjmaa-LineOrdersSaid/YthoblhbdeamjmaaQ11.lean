/- Part 11 of what the claim is proved by: lemmas on the model and walks through functions of the program; no conditions. -/
import Derived.Test.YthoblhbdeamjmaaProg
import Derived.KernelRfl
/- Names for the functions of this translation, by program (wip/tools/fngen.py). -/
namespace Go.Proofs
abbrev Fc.law03_LineOrders : Nat := 14  -- consort/consortlaw03.LineOrders
theorem Fn.law03_LineOrders : Try.prog.funcs[14]? = some Try.f14 := Try.func14
abbrev Fc.law03_wide : Nat := 16  -- consort/consortlaw03.wide
theorem Fn.law03_wide : Try.prog.funcs[16]? = some Try.f16 := Try.func16
abbrev Fc.law03_works : Nat := 17  -- consort/consortlaw03.works
theorem Fn.law03_works : Try.prog.funcs[17]? = some Try.f17 := Try.func17
abbrev Fc.line_Lin : Nat := 18  -- consort/line.Lin
theorem Fn.line_Lin : Try.prog.funcs[18]? = some Try.f18 := Try.func18
abbrev Fc.ref03_Same : Nat := 20  -- consort/consortref03.Same
theorem Fn.ref03_Same : Try.prog.funcs[20]? = some Try.f20 := Try.func20
abbrev Fc.law03_formed : Nat := 21  -- consort/consortlaw03.formed
theorem Fn.law03_formed : Try.prog.funcs[21]? = some Try.f21 := Try.func21
abbrev Fc.law03_large : Nat := 24  -- consort/consortlaw03.large
theorem Fn.law03_large : Try.prog.funcs[24]? = some Try.f24 := Try.func24
abbrev Fc.line_Least : Nat := 27  -- consort/line.Least
theorem Fn.line_Least : Try.prog.funcs[27]? = some Try.f27 := Try.func27
abbrev Fc.line_Number : Nat := 29  -- consort/line.Number
theorem Fn.line_Number : Try.prog.funcs[29]? = some Try.f29 := Try.func29
abbrev Fc.line_Spans : Nat := 31  -- consort/line.Spans
theorem Fn.line_Spans : Try.prog.funcs[31]? = some Try.f31 := Try.func31
abbrev Fc.slices_Contains_Lint_int : Nat := 36  -- slices.Contains[[]int,int]
theorem Fn.slices_Contains_Lint_int : Try.prog.funcs[36]? = some Try.f36 := Try.func36
abbrev Fc.line_Conflict : Nat := 39  -- consort/line.Conflict
theorem Fn.line_Conflict : Try.prog.funcs[39]? = some Try.f39 := Try.func39
abbrev Fc.line_IsRing : Nat := 41  -- consort/line.IsRing
theorem Fn.line_IsRing : Try.prog.funcs[41]? = some Try.f41 := Try.func41
abbrev Fc.slices_ContainsFunc_Lint_int : Nat := 44  -- slices.ContainsFunc[[]int,int]
theorem Fn.slices_ContainsFunc_Lint_int : Try.prog.funcs[44]? = some Try.f44 := Try.func44
abbrev Fc.law03_above : Nat := 47  -- consort/consortlaw03.above
theorem Fn.law03_above : Try.prog.funcs[47]? = some Try.f47 := Try.func47
abbrev Fc.law03_whole : Nat := 53  -- consort/consortlaw03.whole
theorem Fn.law03_whole : Try.prog.funcs[53]? = some Try.f53 := Try.func53
abbrev Fc.slices_ContainsFunc_LLint_Lint : Nat := 54  -- slices.ContainsFunc[[][]int,[]int]
theorem Fn.slices_ContainsFunc_LLint_Lint : Try.prog.funcs[54]? = some Try.f54 := Try.func54
abbrev Fc.slices_Clone_Lint_int : Nat := 64  -- slices.Clone[[]int,int]
theorem Fn.slices_Clone_Lint_int : Try.prog.funcs[64]? = some Try.f64 := Try.func64
abbrev Fc.law03_within : Nat := 65  -- consort/consortlaw03.within
theorem Fn.law03_within : Try.prog.funcs[65]? = some Try.f65 := Try.func65
abbrev Fc.law03_fails : Nat := 66  -- consort/consortlaw03.fails
theorem Fn.law03_fails : Try.prog.funcs[66]? = some Try.f66 := Try.func66
abbrev Fc.law03_Small : Nat := 67  -- consort/consortlaw03.Small
theorem Fn.law03_Small : Try.prog.funcs[67]? = some Try.f67 := Try.func67
abbrev Fc.law03_Twice : Nat := 68  -- consort/consortlaw03.Twice
theorem Fn.law03_Twice : Try.prog.funcs[68]? = some Try.f68 := Try.func68
abbrev Fc.line_open : Nat := 69  -- consort/line.open
theorem Fn.line_open : Try.prog.funcs[69]? = some Try.f69 := Try.func69
abbrev Fc.line_set_has : Nat := 74  -- (consort/line.set).has
theorem Fn.line_set_has : Try.prog.funcs[74]? = some Try.f74 := Try.func74
abbrev Fc.line_asked : Nat := 75  -- consort/line.asked
theorem Fn.line_asked : Try.prog.funcs[75]? = some Try.f75 := Try.func75
abbrev Fc.line_of : Nat := 76  -- consort/line.of
theorem Fn.line_of : Try.prog.funcs[76]? = some Try.f76 := Try.func76
abbrev Fc.line_graph_all : Nat := 77  -- (*consort/line.graph).all
theorem Fn.line_graph_all : Try.prog.funcs[77]? = some Try.f77 := Try.func77
abbrev Fc.line_set_and : Nat := 79  -- (consort/line.set).and
theorem Fn.line_set_and : Try.prog.funcs[79]? = some Try.f79 := Try.func79
abbrev Fc.line_Least_1 : Nat := 82  -- consort/line.Least$1
theorem Fn.line_Least_1 : Try.prog.funcs[82]? = some Try.f82 := Try.func82
abbrev Fc.line_Least_2 : Nat := 83  -- consort/line.Least$2
theorem Fn.line_Least_2 : Try.prog.funcs[83]? = some Try.f83 := Try.func83
abbrev Fc.line_Least_2_1 : Nat := 84  -- consort/line.Least$2$1
theorem Fn.line_Least_2_1 : Try.prog.funcs[84]? = some Try.f84 := Try.func84
abbrev Fc.line_graph_tree : Nat := 86  -- (*consort/line.graph).tree
theorem Fn.line_graph_tree : Try.prog.funcs[86]? = some Try.f86 := Try.func86
abbrev Fc.line_Spans_1 : Nat := 88  -- consort/line.Spans$1
theorem Fn.line_Spans_1 : Try.prog.funcs[88]? = some Try.f88 := Try.func88
abbrev Fc.slices_Index_Lint_int : Nat := 93  -- slices.Index[[]int,int]
theorem Fn.slices_Index_Lint_int : Try.prog.funcs[93]? = some Try.f93 := Try.func93
abbrev Fc.line_graph_lists : Nat := 94  -- (*consort/line.graph).lists
theorem Fn.line_graph_lists : Try.prog.funcs[94]? = some Try.f94 := Try.func94
abbrev Fc.line_graph_after : Nat := 95  -- (*consort/line.graph).after
theorem Fn.line_graph_after : Try.prog.funcs[95]? = some Try.f95 := Try.func95
abbrev Fc.line_rings : Nat := 96  -- consort/line.rings
theorem Fn.line_rings : Try.prog.funcs[96]? = some Try.f96 := Try.func96
abbrev Fc.slices_IndexFunc_Lint_int : Nat := 103  -- slices.IndexFunc[[]int,int]
theorem Fn.slices_IndexFunc_Lint_int : Try.prog.funcs[103]? = some Try.f103 := Try.func103
abbrev Fc.line_set_with : Nat := 104  -- (consort/line.set).with
theorem Fn.line_set_with : Try.prog.funcs[104]? = some Try.f104 := Try.func104
abbrev Fc.slices_Equal_Lbool_bool : Nat := 107  -- slices.Equal[[]bool,bool]
theorem Fn.slices_Equal_Lbool_bool : Try.prog.funcs[107]? = some Try.f107 := Try.func107
abbrev Fc.slices_IndexFunc_LLint_Lint : Nat := 108  -- slices.IndexFunc[[][]int,[]int]
theorem Fn.slices_IndexFunc_LLint_Lint : Try.prog.funcs[108]? = some Try.f108 := Try.func108
abbrev Fc.line_fine : Nat := 111  -- consort/line.fine
theorem Fn.line_fine : Try.prog.funcs[111]? = some Try.f111 := Try.func111
abbrev Fc.law03_own : Nat := 112  -- consort/consortlaw03.own
theorem Fn.law03_own : Try.prog.funcs[112]? = some Try.f112 := Try.func112
abbrev Fc.law03_turned : Nat := 113  -- consort/consortlaw03.turned
theorem Fn.law03_turned : Try.prog.funcs[113]? = some Try.f113 := Try.func113
abbrev Fc.line_set_or : Nat := 114  -- (consort/line.set).or
theorem Fn.line_set_or : Try.prog.funcs[114]? = some Try.f114 := Try.func114
abbrev Fc.line_graph_order : Nat := 115  -- (*consort/line.graph).order
theorem Fn.line_graph_order : Try.prog.funcs[115]? = some Try.f115 := Try.func115
abbrev Fc.line_keep_int : Nat := 116  -- consort/line.keep[int]
theorem Fn.line_keep_int : Try.prog.funcs[116]? = some Try.f116 := Try.func116
abbrev Fc.line_graph_tree_1 : Nat := 117  -- (*consort/line.graph).tree$1
theorem Fn.line_graph_tree_1 : Try.prog.funcs[117]? = some Try.f117 := Try.func117
abbrev Fc.line_bare : Nat := 120  -- consort/line.bare
theorem Fn.line_bare : Try.prog.funcs[120]? = some Try.f120 := Try.func120
abbrev Fc.law03_own_1 : Nat := 126  -- consort/consortlaw03.own$1
theorem Fn.law03_own_1 : Try.prog.funcs[126]? = some Try.f126 := Try.func126
abbrev Fc.slices_DeleteFunc_Lint_int : Nat := 127  -- slices.DeleteFunc[[]int,int]
theorem Fn.slices_DeleteFunc_Lint_int : Try.prog.funcs[127]? = some Try.f127 := Try.func127
abbrev Fc.law03_own_2 : Nat := 128  -- consort/consortlaw03.own$2
theorem Fn.law03_own_2 : Try.prog.funcs[128]? = some Try.f128 := Try.func128
abbrev Fc.law03_own_3 : Nat := 129  -- consort/consortlaw03.own$3
theorem Fn.law03_own_3 : Try.prog.funcs[129]? = some Try.f129 := Try.func129
abbrev Fc.law03_turned_1 : Nat := 130  -- consort/consortlaw03.turned$1
theorem Fn.law03_turned_1 : Try.prog.funcs[130]? = some Try.f130 := Try.func130
abbrev Fc.line_merge : Nat := 131  -- consort/line.merge
theorem Fn.line_merge : Try.prog.funcs[131]? = some Try.f131 := Try.func131
abbrev Fc.line_bare_1 : Nat := 132  -- consort/line.bare$1
theorem Fn.line_bare_1 : Try.prog.funcs[132]? = some Try.f132 := Try.func132
abbrev Fc.line_merge_1 : Nat := 134  -- consort/line.merge$1
theorem Fn.line_merge_1 : Try.prog.funcs[134]? = some Try.f134 := Try.func134
theorem Try.mixed : Try.prog.follows .mixedOrders = true := by kernel_rfl
end Go.Proofs
