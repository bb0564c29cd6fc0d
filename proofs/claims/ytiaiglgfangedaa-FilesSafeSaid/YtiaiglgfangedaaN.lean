/- The numbers of the functions, by their names. -/
import Derived.Test.YtiaiglgfangedaaK3
import Derived.Test.YtiaiglgfangedaaProg
set_option linter.unusedVariables false
set_option linter.unusedSimpArgs false
set_option linter.unusedSectionVars false
namespace Go.Proofs.Ytiaiglgfangedaa
open Go Go.Isk
theorem mixed : Try.prog.follows .mixedOrders = true := by kernel_rfl
abbrev N.isthmuslaw04_FilesSafe : Nat := 3
abbrev N.files_New : Nat := 4
abbrev N.isthmuslaw04_sure : Nat := 5
abbrev N.files_FS_Append : Nat := 6
abbrev N.files_FS_Sync : Nat := 7
abbrev N.files_FS_Arm : Nat := 8
abbrev N.files_FS_Start : Nat := 9
abbrev N.files_FS_Read : Nat := 10
abbrev N.files_FS_Safe : Nat := 11
abbrev N.files_FS_Down : Nat := 12
abbrev N.files_FS_ready : Nat := 13
abbrev N.files_fault : Nat := 14
abbrev N.files_FS_step : Nat := 15
abbrev N.files_FS_change : Nat := 16
abbrev N.files_FS_Sync_1 : Nat := 17
abbrev N.files_FS_List : Nat := 18
abbrev N.files_FS_find : Nat := 19
abbrev N.slices_Clone_bytes : Nat := 20
abbrev N.files_named : Nat := 21
abbrev N.slices_Sorted_string : Nat := 22
abbrev N.maps_Keys_map_string_files_file_string_files_file : Nat := 23
abbrev N.slices_ContainsFunc_bytes : Nat := 24
abbrev N.files_named_1 : Nat := 25
abbrev N.slices_Collect_string : Nat := 26
abbrev N.slices_Sort_string_string : Nat := 27
abbrev N.slices_IndexFunc_bytes : Nat := 29
abbrev N.slices_AppendSeq_string_string : Nat := 30
abbrev N.slices_pdqsortOrdered_string : Nat := 31
abbrev N.math_bits_Len : Nat := 32
abbrev N.slices_insertionSortOrdered_string : Nat := 33
abbrev N.slices_heapSortOrdered_string : Nat := 34
abbrev N.slices_breakPatternsOrdered_string : Nat := 35
abbrev N.slices_choosePivotOrdered_string : Nat := 36
abbrev N.slices_reverseRangeOrdered_string : Nat := 37
abbrev N.slices_partialInsertionSortOrdered_string : Nat := 38
abbrev N.cmp_Less_string : Nat := 39
abbrev N.slices_partitionEqualOrdered_string : Nat := 40
abbrev N.slices_partitionOrdered_string : Nat := 41
abbrev N.math_bits_Len32 : Nat := 42
abbrev N.math_bits_Len64 : Nat := 43
abbrev N.slices_siftDownOrdered_string : Nat := 44
abbrev N.slices_nextPowerOfTwo : Nat := 45
abbrev N.slices_xorshift_Next : Nat := 46
abbrev N.slices_medianAdjacentOrdered_string : Nat := 47
abbrev N.slices_medianOrdered_string : Nat := 48
abbrev N.cmp_isNaN_string : Nat := 49
abbrev N.slices_order2Ordered_string : Nat := 50
/- The numbers of the types, by their names. -/
abbrev T.int : Nat := 3
abbrev T.bool : Nat := 4
abbrev T.uint8 : Nat := 5
abbrev T.string : Nat := 9
abbrev T.sl_uint8 : Nat := 22
abbrev T.sl_int : Nat := 23
abbrev T.isthmuslaw04_Act : Nat := 25
abbrev T.p_files_FS : Nat := 26
abbrev T.error : Nat := 30
abbrev T.map_string_files_file : Nat := 41
abbrev T.files_FS : Nat := 43
abbrev T.files_file : Nat := 46
abbrev T.api_Errno : Nat := 49
abbrev T.sl_string : Nat := 53
abbrev T.p_api_Fault : Nat := 59
abbrev T.api_Fault : Nat := 61
/- how many package variables -/ -- NG=
abbrev NG : Nat := 0
end Go.Proofs.Ytiaiglgfangedaa
