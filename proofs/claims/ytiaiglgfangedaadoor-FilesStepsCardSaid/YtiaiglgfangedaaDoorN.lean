/- The numbers of the functions, by their names. -/
import Derived.Test.YtiaiglgfangedaaDoorK3
import Derived.Test.YtiaiglgfangedaaDoorProg
set_option linter.unusedVariables false
set_option linter.unusedSimpArgs false
set_option linter.unusedSectionVars false
namespace Go.Proofs.YtiaiglgfangedaaDoor
open Go Go.Isk
theorem mixed : Tryd.prog.follows .mixedOrders = true := by kernel_rfl
abbrev N.isthmuslaw04_FilesSteps : Nat := 3
abbrev N.files_New : Nat := 6
abbrev N.files_FS_Arm : Nat := 7
abbrev N.isthmuslaw04_sure : Nat := 8
abbrev N.files_FS_Append : Nat := 9
abbrev N.files_FS_Down : Nat := 10
abbrev N.files_FS_Steps : Nat := 11
abbrev N.isthmuslaw04_num : Nat := 12
abbrev N.files_FS_Read : Nat := 13
abbrev N.files_FS_Sync : Nat := 14
abbrev N.files_FS_Start : Nat := 15
abbrev N.files_FS_List : Nat := 19
abbrev N.files_fault : Nat := 20
abbrev N.files_FS_ready : Nat := 21
abbrev N.files_FS_step : Nat := 22
abbrev N.errors_As : Nat := 23
abbrev N.files_FS_find : Nat := 24
abbrev N.slices_Clone_bytes : Nat := 25
abbrev N.files_FS_change : Nat := 26
abbrev N.files_FS_Sync_1 : Nat := 27
abbrev N.slices_Sorted_string : Nat := 37
abbrev N.maps_Keys_map_string_files_file_string_files_file : Nat := 38
abbrev N.files_named : Nat := 39
abbrev N.internal_reflectlite_ValueOf : Nat := 40
abbrev N.internal_reflectlite_Value_Type : Nat := 41
abbrev N.internal_reflectlite_Value_IsNil : Nat := 42
abbrev N.errors_as : Nat := 43
abbrev N.slices_Collect_string : Nat := 53
abbrev N.slices_Sort_string_string : Nat := 54
abbrev N.slices_ContainsFunc_bytes : Nat := 56
abbrev N.files_named_1 : Nat := 57
abbrev N.internal_reflectlite_TypeOf : Nat := 58
abbrev N.internal_reflectlite_Value_Elem : Nat := 59
abbrev N.internal_reflectlite_Value_Set : Nat := 60
abbrev N.slices_AppendSeq_string_string : Nat := 62
abbrev N.slices_pdqsortOrdered_string : Nat := 63
abbrev N.math_bits_Len : Nat := 64
abbrev N.slices_IndexFunc_bytes : Nat := 65
abbrev N.slices_insertionSortOrdered_string : Nat := 66
abbrev N.slices_heapSortOrdered_string : Nat := 67
abbrev N.slices_breakPatternsOrdered_string : Nat := 68
abbrev N.slices_choosePivotOrdered_string : Nat := 69
abbrev N.slices_reverseRangeOrdered_string : Nat := 70
abbrev N.slices_partialInsertionSortOrdered_string : Nat := 71
abbrev N.cmp_Less_string : Nat := 72
abbrev N.slices_partitionEqualOrdered_string : Nat := 73
abbrev N.slices_partitionOrdered_string : Nat := 74
abbrev N.math_bits_Len32 : Nat := 75
abbrev N.math_bits_Len64 : Nat := 76
abbrev N.slices_siftDownOrdered_string : Nat := 77
abbrev N.slices_nextPowerOfTwo : Nat := 78
abbrev N.slices_xorshift_Next : Nat := 79
abbrev N.slices_medianAdjacentOrdered_string : Nat := 80
abbrev N.slices_medianOrdered_string : Nat := 81
abbrev N.cmp_isNaN_string : Nat := 82
abbrev N.slices_order2Ordered_string : Nat := 83
abbrev N.internal_abi_Type_Kind : Nat := 98
abbrev N.api_Fault_Unwrap : Nat := 103
abbrev N.internal_reflectlite_rtype_AssignableTo : Nat := 108
abbrev N.internal_reflectlite_rtype_Elem : Nat := 110
abbrev N.internal_reflectlite_rtype_Implements : Nat := 111
/- The numbers of the types, by their names. -/
abbrev T.int : Nat := 3
abbrev T.bool : Nat := 4
abbrev T.uint8 : Nat := 5
abbrev T.string : Nat := 9
abbrev T.sl_uint8 : Nat := 22
abbrev T.p_files_FS : Nat := 23
abbrev T.error : Nat := 27
abbrev T.sl_int : Nat := 37
abbrev T.isthmuslaw04_Act : Nat := 46
abbrev T.sl_string : Nat := 48
abbrev T.map_string_files_file : Nat := 52
abbrev T.files_FS : Nat := 54
abbrev T.api_Errno : Nat := 56
abbrev T.files_file : Nat := 59
abbrev T.p_api_Errno : Nat := 63
abbrev T.p_api_Fault : Nat := 86
abbrev T.api_Fault : Nat := 88
abbrev T.reflectlite_Value : Nat := 93
abbrev T.reflectlite_rtype : Nat := 112
/- how many package variables -/ -- NG=
abbrev NG : Nat := 1
abbrev G.errors_errorType : Nat := 0
end Go.Proofs.YtiaiglgfangedaaDoor
