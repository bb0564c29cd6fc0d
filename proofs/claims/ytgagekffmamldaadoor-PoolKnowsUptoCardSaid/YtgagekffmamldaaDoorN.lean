/- The numbers of the functions, by their names. -/
import Derived.Test.YtgagekffmamldaaDoorK3
import Derived.Test.YtgagekffmamldaaDoorProg
set_option linter.unusedVariables false
set_option linter.unusedSimpArgs false
set_option linter.unusedSectionVars false
namespace Go.Proofs.YtgagekffmamldaaDoor
open Go Go.Isk
theorem mixed : Tryd.prog.follows .mixedOrders = true := by kernel_rfl
abbrev N.isthmuslaw18_PoolKnows : Nat := 5
abbrev N.pool_New : Nat := 6
abbrev N.pool_Pool_Add : Nat := 7
abbrev N.pool_Pool_Has : Nat := 8
abbrev N.txs_Hash : Nat := 9
abbrev N.pool_Pool_Len : Nat := 10
abbrev N.isthmuslaw18_sure : Nat := 12
abbrev N.pool_Pool_Done : Nat := 14
abbrev N.pool_Pool_Knows : Nat := 15
abbrev N.isthmuslaw18_num : Nat := 16
abbrev N.pool_Pool_Drop : Nat := 17
abbrev N.pool_New_1 : Nat := 18
abbrev N.pool_fault : Nat := 19
abbrev N.slices_Clone_bytes : Nat := 20
abbrev N.slices_Clone_pool_item_pool_item : Nat := 21
abbrev N.pool_size : Nat := 22
abbrev N.slices_SortFunc_pool_item_pool_item : Nat := 23
abbrev N.pool_item_before : Nat := 24
abbrev N.pool_Pool_remember : Nat := 25
abbrev N.slices_ContainsFunc_pool_item_pool_item : Nat := 26
abbrev N.pool_Pool_Has_1 : Nat := 27
abbrev N.sha_Sum : Nat := 28
abbrev N.pool_Pool_drop : Nat := 29
abbrev N.slices_Contains_api_Hash_api_Hash : Nat := 30
abbrev N.errors_As : Nat := 31
abbrev N.pool_Pool_forget : Nat := 32
abbrev N.slices_pdqsortCmpFunc_pool_item : Nat := 33
abbrev N.math_bits_Len : Nat := 34
abbrev N.cmp_Or_int : Nat := 35
abbrev N.cmp_Compare_int : Nat := 36
abbrev N.slices_IndexFunc_pool_item_pool_item : Nat := 37
abbrev N.sha_start : Nat := 38
abbrev N.sha_words_mix : Nat := 39
abbrev N.sha_words_end : Nat := 40
abbrev N.pool_Pool_drop_1 : Nat := 41
abbrev N.slices_Delete_pool_item_pool_item : Nat := 42
abbrev N.slices_Index_api_Hash_api_Hash : Nat := 43
abbrev N.internal_reflectlite_ValueOf : Nat := 44
abbrev N.internal_reflectlite_Value_Type : Nat := 45
abbrev N.internal_reflectlite_Value_IsNil : Nat := 46
abbrev N.errors_as : Nat := 47
abbrev N.slices_DeleteFunc_api_Hash_api_Hash : Nat := 48
abbrev N.slices_Clone_api_Hash_api_Hash : Nat := 49
abbrev N.pool_Pool_forget_1 : Nat := 50
abbrev N.slices_insertionSortCmpFunc_pool_item : Nat := 51
abbrev N.slices_heapSortCmpFunc_pool_item : Nat := 52
abbrev N.slices_breakPatternsCmpFunc_pool_item : Nat := 53
abbrev N.slices_choosePivotCmpFunc_pool_item : Nat := 54
abbrev N.slices_reverseRangeCmpFunc_pool_item : Nat := 55
abbrev N.slices_partialInsertionSortCmpFunc_pool_item : Nat := 56
abbrev N.slices_partitionEqualCmpFunc_pool_item : Nat := 57
abbrev N.slices_partitionCmpFunc_pool_item : Nat := 58
abbrev N.math_bits_Len32 : Nat := 59
abbrev N.math_bits_Len64 : Nat := 60
abbrev N.cmp_isNaN_int : Nat := 61
abbrev N.math_bits_RotateLeft32 : Nat := 62
abbrev N.internal_reflectlite_TypeOf : Nat := 63
abbrev N.internal_reflectlite_Value_Elem : Nat := 64
abbrev N.internal_reflectlite_Value_Set : Nat := 65
abbrev N.slices_IndexFunc_api_Hash_api_Hash : Nat := 66
abbrev N.slices_siftDownCmpFunc_pool_item : Nat := 67
abbrev N.slices_nextPowerOfTwo : Nat := 68
abbrev N.slices_xorshift_Next : Nat := 69
abbrev N.slices_medianAdjacentCmpFunc_pool_item : Nat := 70
abbrev N.slices_medianCmpFunc_pool_item : Nat := 71
abbrev N.slices_order2CmpFunc_pool_item : Nat := 72
abbrev N.internal_abi_Type_Kind : Nat := 87
abbrev N.api_Fault_Unwrap : Nat := 92
abbrev N.internal_reflectlite_rtype_AssignableTo : Nat := 97
abbrev N.internal_reflectlite_rtype_Elem : Nat := 99
abbrev N.internal_reflectlite_rtype_Implements : Nat := 100
/- The numbers of the types, by their names. -/
abbrev T.int : Nat := 3
abbrev T.bool : Nat := 4
abbrev T.uint8 : Nat := 5
abbrev T.string : Nat := 9
abbrev T.isthmuslaw18_Size : Nat := 23
abbrev T.sl_isthmuslaw18_Act : Nat := 24
abbrev T.uint : Nat := 25
abbrev T.error : Nat := 28
abbrev T.sl_int : Nat := 31
abbrev T.sl_api_Hash : Nat := 32
abbrev T.sl_uint8 : Nat := 33
abbrev T.sl_sl_uint8 : Nat := 34
abbrev T.isthmuslaw18_Act : Nat := 36
abbrev T.api_Hash : Nat := 40
abbrev T.api_Errno : Nat := 55
abbrev T.sl_pool_item : Nat := 56
abbrev T.pool_Pool : Nat := 58
abbrev T.pool_item : Nat := 61
abbrev T.p_api_Errno : Nat := 72
abbrev T.p_api_Fault : Nat := 73
abbrev T.api_Fault : Nat := 75
abbrev T.uint32 : Nat := 81
abbrev T.arr8_uint32 : Nat := 82
abbrev T.sha_words : Nat := 83
abbrev T.uint64 : Nat := 85
abbrev T.reflectlite_Value : Nat := 93
abbrev T.arr64_uint32 : Nat := 115
abbrev T.arr128_uint8 : Nat := 117
abbrev T.reflectlite_rtype : Nat := 119
/- how many package variables -/ -- NG=
abbrev NG : Nat := 2
abbrev G.errors_errorType : Nat := 0
abbrev G.sha_rounds : Nat := 1
end Go.Proofs.YtgagekffmamldaaDoor
