/- Closed facts on the program: the sizes and zero values of its types, its functions. No conditions. -/
import Derived.Test.YtidfbboalbchiaaDoorRows
import Derived.Test.YtidfbboalbchiaaDoorMem2
namespace Go.Proofs.YtidfbboalbchiaaDoor
open Go
theorem sz3 : (Tryd.prog.info? 3).map (·.size) = some 1 := by kernel_rfl
theorem sz4 : (Tryd.prog.info? 4).map (·.size) = some 1 := by kernel_rfl
theorem sz5 : (Tryd.prog.info? 5).map (·.size) = some 1 := by kernel_rfl
theorem sz9 : (Tryd.prog.info? 9).map (·.size) = some 1 := by kernel_rfl
theorem sz22 : (Tryd.prog.info? 22).map (·.size) = some 1 := by kernel_rfl
theorem sz24 : (Tryd.prog.info? 24).map (·.size) = some 32 := by kernel_rfl
theorem sz27 : (Tryd.prog.info? 27).map (·.size) = some 1 := by kernel_rfl
theorem sz29 : (Tryd.prog.info? 29).map (·.size) = some 1 := by kernel_rfl
theorem sz30 : (Tryd.prog.info? 30).map (·.size) = some 8 := by kernel_rfl
theorem sz31 : (Tryd.prog.info? 31).map (·.size) = some 64 := by kernel_rfl
theorem sz32 : (Tryd.prog.info? 32).map (·.size) = some 1 := by kernel_rfl
theorem sz34 : (Tryd.prog.info? 34).map (·.size) = some 73 := by kernel_rfl
theorem sz44 : (Tryd.prog.info? 44).map (·.size) = some 16 := by kernel_rfl
theorem sz45 : (Tryd.prog.info? 45).map (·.size) = some 1 := by kernel_rfl
theorem sz60 : (Tryd.prog.info? 60).map (·.size) = some 2 := by kernel_rfl
theorem sz64 : (Tryd.prog.info? 64).map (·.size) = some 1 := by kernel_rfl
theorem sz66 : (Tryd.prog.info? 66).map (·.size) = some 2 := by kernel_rfl
theorem sz67 : (Tryd.prog.info? 67).map (·.size) = some 1 := by kernel_rfl
theorem sz69 : (Tryd.prog.info? 69).map (·.size) = some 1 := by kernel_rfl
theorem sz71 : (Tryd.prog.info? 71).map (·.size) = some 3 := by kernel_rfl
theorem sz74 : (Tryd.prog.info? 74).map (·.size) = some 3 := by kernel_rfl
theorem sz82 : (Tryd.prog.info? 82).map (·.size) = some 1 := by kernel_rfl
theorem sz86 : (Tryd.prog.info? 86).map (·.size) = some 1 := by kernel_rfl
theorem sz89 : (Tryd.prog.info? 89).map (·.size) = some 1 := by kernel_rfl
theorem sz100 : (Tryd.prog.info? 100).map (·.size) = some 64 := by kernel_rfl
theorem sz105 : (Tryd.prog.info? 105).map (·.size) = some 68 := by kernel_rfl
theorem sz109 : (Tryd.prog.info? 109).map (·.size) = some 1 := by kernel_rfl
theorem sz111 : (Tryd.prog.info? 111).map (·.size) = some 1 := by kernel_rfl
theorem sz113 : (Tryd.prog.info? 113).map (·.size) = some 2 := by kernel_rfl
theorem sz124 : (Tryd.prog.info? 124).map (·.size) = some 1 := by kernel_rfl
theorem sz132 : (Tryd.prog.info? 132).map (·.size) = some 0 := by kernel_rfl
theorem sz139 : (Tryd.prog.info? 139).map (·.size) = some 1 := by kernel_rfl
theorem sz147 : (Tryd.prog.info? 147).map (·.size) = some 33 := by kernel_rfl
theorem sz154 : (Tryd.prog.info? 154).map (·.size) = some 4 := by kernel_rfl
theorem sz157 : (Tryd.prog.info? 157).map (·.size) = some 1 := by kernel_rfl
theorem sz160 : (Tryd.prog.info? 160).map (·.size) = some 1 := by kernel_rfl
theorem sz167 : (Tryd.prog.info? 167).map (·.size) = some 1 := by kernel_rfl
theorem zr3 : (Tryd.prog.info? 3).map (·.zero) = some (some (Value.int .i64 0)) := by kernel_rfl
theorem zr4 : (Tryd.prog.info? 4).map (·.zero) = some (some (.bool false)) := by kernel_rfl
theorem zr5 : (Tryd.prog.info? 5).map (·.zero) = some (some (Value.int .u8 0)) := by kernel_rfl
theorem zr9 : (Tryd.prog.info? 9).map (·.zero) = some (some (.string ByteArray.empty)) := by kernel_rfl
theorem zr22 : (Tryd.prog.info? 22).map (·.zero) = some (some (.slice none 0 0)) := by kernel_rfl
theorem zr24 : (Tryd.prog.info? 24).map (·.zero) = some (some (.agg (List.replicate 32 (Value.int .u8 0)).toArray)) := by kernel_rfl
theorem zr27 : (Tryd.prog.info? 27).map (·.zero) = some (some (.slice none 0 0)) := by kernel_rfl
theorem zr29 : (Tryd.prog.info? 29).map (·.zero) = some (some (Value.int .u32 0)) := by kernel_rfl
theorem zr30 : (Tryd.prog.info? 30).map (·.zero) = some (some (.agg (List.replicate 8 (Value.int .u32 0)).toArray)) := by kernel_rfl
theorem zr31 : (Tryd.prog.info? 31).map (·.zero) = some (some (.agg (List.replicate 64 (Value.int .u8 0)).toArray)) := by kernel_rfl
theorem zr34 : (Tryd.prog.info? 34).map (·.zero) = some (some (.agg (List.replicate 8 (Value.int .u32 0) ++ List.replicate 64 (Value.int .u8 0) ++ [Value.int .u64 0]).toArray)) := by kernel_rfl
theorem zr44 : (Tryd.prog.info? 44).map (·.zero) = some (some (.agg (List.replicate 16 (Value.int .u8 0)).toArray)) := by kernel_rfl
theorem zr45 : (Tryd.prog.info? 45).map (·.zero) = some (some (.slice none 0 0)) := by kernel_rfl
theorem zr60 : (Tryd.prog.info? 60).map (·.zero) = some (some (.agg (List.replicate 2 (Value.int .u8 0)).toArray)) := by kernel_rfl
theorem zr66 : (Tryd.prog.info? 66).map (·.zero) = some (some (.agg (List.replicate 2 (Value.int .i64 0)).toArray)) := by kernel_rfl
theorem zr69 : (Tryd.prog.info? 69).map (·.zero) = some (some (.slice none 0 0)) := by kernel_rfl
theorem zr71 : (Tryd.prog.info? 71).map (·.zero) = some (some (.agg #[Value.int .i64 0, Value.int .i64 0, .slice none 0 0])) := by kernel_rfl
theorem zr74 : (Tryd.prog.info? 74).map (·.zero) = some (some (.agg #[Value.int .i64 0, Value.int .i64 0, .slice none 0 0])) := by kernel_rfl
theorem zr100 : (Tryd.prog.info? 100).map (·.zero) = some (some (.agg (List.replicate 64 (Value.int .u32 0)).toArray)) := by kernel_rfl
theorem zr105 : (Tryd.prog.info? 105).map (·.zero) = some (some (.agg (List.replicate 68 (Value.int .i64 0)).toArray)) := by kernel_rfl
theorem zr109 : (Tryd.prog.info? 109).map (·.zero) = some (some (.nilFunc)) := by kernel_rfl
theorem zr113 : (Tryd.prog.info? 113).map (·.zero) = some (some (.agg #[.pointer none, .slice none 0 0])) := by kernel_rfl
theorem zr124 : (Tryd.prog.info? 124).map (·.zero) = some (some (.nilFunc)) := by kernel_rfl
theorem zr132 : (Tryd.prog.info? 132).map (·.zero) = some (some (.agg #[])) := by kernel_rfl
theorem zr139 : (Tryd.prog.info? 139).map (·.zero) = some (some (.pointer none)) := by kernel_rfl
theorem zr147 : (Tryd.prog.info? 147).map (·.zero) = some (some (.agg (List.replicate 32 (Value.int .u8 0) ++ [Value.bool false]).toArray)) := by kernel_rfl
theorem zr154 : (Tryd.prog.info? 154).map (·.zero) = some (some (.agg (List.replicate 4 (Value.int .u32 0)).toArray)) := by kernel_rfl
theorem zr157 : (Tryd.prog.info? 157).map (·.zero) = some (some (.map none)) := by kernel_rfl
theorem ok22 : callOk Tryd.prog 22 = true := by kernel_rfl
theorem ok23 : callOk Tryd.prog 23 = true := by kernel_rfl
theorem ok24 : callOk Tryd.prog 24 = true := by kernel_rfl
theorem ok25 : callOk Tryd.prog 25 = true := by kernel_rfl
theorem ok26 : callOk Tryd.prog 26 = true := by kernel_rfl
theorem ok27 : callOk Tryd.prog 27 = true := by kernel_rfl
theorem ok28 : callOk Tryd.prog 28 = true := by kernel_rfl
theorem ok29 : callOk Tryd.prog 29 = true := by kernel_rfl
theorem ok30 : callOk Tryd.prog 30 = true := by kernel_rfl
theorem ok31 : callOk Tryd.prog 31 = true := by kernel_rfl
theorem ok32 : callOk Tryd.prog 32 = true := by kernel_rfl
theorem ok33 : callOk Tryd.prog 33 = true := by kernel_rfl
theorem ok34 : callOk Tryd.prog 34 = true := by kernel_rfl
theorem ok35 : callOk Tryd.prog 35 = true := by kernel_rfl
theorem ok36 : callOk Tryd.prog 36 = true := by kernel_rfl
theorem ok37 : callOk Tryd.prog 37 = true := by kernel_rfl
theorem ok38 : callOk Tryd.prog 38 = true := by kernel_rfl
theorem ok39 : callOk Tryd.prog 39 = true := by kernel_rfl
theorem ok40 : callOk Tryd.prog 40 = true := by kernel_rfl
theorem ok41 : callOk Tryd.prog 41 = true := by kernel_rfl
theorem ok42 : callOk Tryd.prog 42 = true := by kernel_rfl
theorem ok43 : callOk Tryd.prog 43 = true := by kernel_rfl
theorem ok44 : callOk Tryd.prog 44 = true := by kernel_rfl
theorem ok45 : callOk Tryd.prog 45 = true := by kernel_rfl
theorem ok46 : callOk Tryd.prog 46 = true := by kernel_rfl
theorem ok47 : callOk Tryd.prog 47 = true := by kernel_rfl
theorem ok48 : callOk Tryd.prog 48 = true := by kernel_rfl
theorem ok49 : callOk Tryd.prog 49 = true := by kernel_rfl
theorem ok50 : callOk Tryd.prog 50 = true := by kernel_rfl
theorem ok51 : callOk Tryd.prog 51 = true := by kernel_rfl
theorem ok52 : callOk Tryd.prog 52 = true := by kernel_rfl
theorem ok53 : callOk Tryd.prog 53 = true := by kernel_rfl
theorem ok54 : callOk Tryd.prog 54 = true := by kernel_rfl
theorem ok55 : callOk Tryd.prog 55 = true := by kernel_rfl
theorem ok56 : callOk Tryd.prog 56 = true := by kernel_rfl
theorem ok57 : callOk Tryd.prog 57 = true := by kernel_rfl
theorem ok58 : callOk Tryd.prog 58 = true := by kernel_rfl
theorem ok59 : callOk Tryd.prog 59 = true := by kernel_rfl
theorem ok60 : callOk Tryd.prog 60 = true := by kernel_rfl
theorem ok61 : callOk Tryd.prog 61 = true := by kernel_rfl
theorem ok62 : callOk Tryd.prog 62 = true := by kernel_rfl
theorem ok63 : callOk Tryd.prog 63 = true := by kernel_rfl
theorem ok64 : callOk Tryd.prog 64 = true := by kernel_rfl
theorem ok65 : callOk Tryd.prog 65 = true := by kernel_rfl
theorem ok66 : callOk Tryd.prog 66 = true := by kernel_rfl
theorem ok67 : callOk Tryd.prog 67 = true := by kernel_rfl
theorem ok68 : callOk Tryd.prog 68 = true := by kernel_rfl
theorem ok69 : callOk Tryd.prog 69 = true := by kernel_rfl
theorem ok70 : callOk Tryd.prog 70 = true := by kernel_rfl
theorem ok71 : callOk Tryd.prog 71 = true := by kernel_rfl
theorem ok72 : callOk Tryd.prog 72 = true := by kernel_rfl
theorem ok73 : callOk Tryd.prog 73 = true := by kernel_rfl
theorem ok74 : callOk Tryd.prog 74 = true := by kernel_rfl
theorem ok75 : callOk Tryd.prog 75 = true := by kernel_rfl
theorem ok76 : callOk Tryd.prog 76 = true := by kernel_rfl
theorem ok77 : callOk Tryd.prog 77 = true := by kernel_rfl
theorem ok78 : callOk Tryd.prog 78 = true := by kernel_rfl
theorem ok79 : callOk Tryd.prog 79 = true := by kernel_rfl
theorem ok80 : callOk Tryd.prog 80 = true := by kernel_rfl
theorem ok81 : callOk Tryd.prog 81 = true := by kernel_rfl
theorem ok82 : callOk Tryd.prog 82 = true := by kernel_rfl
theorem ok83 : callOk Tryd.prog 83 = true := by kernel_rfl
theorem ok84 : callOk Tryd.prog 84 = true := by kernel_rfl
theorem ok85 : callOk Tryd.prog 85 = true := by kernel_rfl
theorem ok86 : callOk Tryd.prog 86 = true := by kernel_rfl
theorem ok87 : callOk Tryd.prog 87 = true := by kernel_rfl
theorem ok88 : callOk Tryd.prog 88 = true := by kernel_rfl
theorem ok89 : callOk Tryd.prog 89 = true := by kernel_rfl
theorem ok90 : callOk Tryd.prog 90 = true := by kernel_rfl
theorem ok91 : callOk Tryd.prog 91 = true := by kernel_rfl
theorem ok92 : callOk Tryd.prog 92 = true := by kernel_rfl
theorem ok93 : callOk Tryd.prog 93 = true := by kernel_rfl
theorem ok94 : callOk Tryd.prog 94 = true := by kernel_rfl
theorem ok95 : callOk Tryd.prog 95 = true := by kernel_rfl
theorem ok96 : callOk Tryd.prog 96 = true := by kernel_rfl
theorem ok97 : callOk Tryd.prog 97 = true := by kernel_rfl
theorem ok98 : callOk Tryd.prog 98 = true := by kernel_rfl
theorem ok99 : callOk Tryd.prog 99 = true := by kernel_rfl
theorem ok100 : callOk Tryd.prog 100 = true := by kernel_rfl
theorem ok101 : callOk Tryd.prog 101 = true := by kernel_rfl
theorem ok102 : callOk Tryd.prog 102 = true := by kernel_rfl
theorem ok103 : callOk Tryd.prog 103 = true := by kernel_rfl
theorem ok104 : callOk Tryd.prog 104 = true := by kernel_rfl
theorem ok105 : callOk Tryd.prog 105 = true := by kernel_rfl
theorem ok106 : callOk Tryd.prog 106 = true := by kernel_rfl
theorem ok107 : callOk Tryd.prog 107 = true := by kernel_rfl
theorem ok108 : callOk Tryd.prog 108 = true := by kernel_rfl
theorem ok109 : callOk Tryd.prog 109 = true := by kernel_rfl
theorem ok110 : callOk Tryd.prog 110 = true := by kernel_rfl
theorem ok111 : callOk Tryd.prog 111 = true := by kernel_rfl
theorem ok112 : callOk Tryd.prog 112 = true := by kernel_rfl
theorem ok113 : callOk Tryd.prog 113 = true := by kernel_rfl
theorem ok114 : callOk Tryd.prog 114 = true := by kernel_rfl
theorem ok115 : callOk Tryd.prog 115 = true := by kernel_rfl
theorem ok116 : callOk Tryd.prog 116 = true := by kernel_rfl
theorem ok117 : callOk Tryd.prog 117 = true := by kernel_rfl
theorem ok118 : callOk Tryd.prog 118 = true := by kernel_rfl
theorem ok119 : callOk Tryd.prog 119 = true := by kernel_rfl
theorem ok120 : callOk Tryd.prog 120 = true := by kernel_rfl
theorem ok121 : callOk Tryd.prog 121 = true := by kernel_rfl
theorem ok122 : callOk Tryd.prog 122 = true := by kernel_rfl
theorem ok123 : callOk Tryd.prog 123 = true := by kernel_rfl
theorem ok124 : callOk Tryd.prog 124 = true := by kernel_rfl
theorem ok125 : callOk Tryd.prog 125 = true := by kernel_rfl
theorem ok126 : callOk Tryd.prog 126 = true := by kernel_rfl
theorem ok127 : callOk Tryd.prog 127 = true := by kernel_rfl
theorem ok128 : callOk Tryd.prog 128 = true := by kernel_rfl
theorem ok129 : callOk Tryd.prog 129 = true := by kernel_rfl
theorem ok130 : callOk Tryd.prog 130 = true := by kernel_rfl
theorem ok131 : callOk Tryd.prog 131 = true := by kernel_rfl
theorem ok132 : callOk Tryd.prog 132 = true := by kernel_rfl
theorem ok134 : callOk Tryd.prog 134 = true := by kernel_rfl
theorem ok135 : callOk Tryd.prog 135 = true := by kernel_rfl
theorem ok136 : callOk Tryd.prog 136 = true := by kernel_rfl
theorem ok137 : callOk Tryd.prog 137 = true := by kernel_rfl
theorem ok138 : callOk Tryd.prog 138 = true := by kernel_rfl
theorem nz3 : ((Tryd.prog.info? 3).map fun i => i.size == 0) = some false := by kernel_rfl -- nz32
theorem nz4 : ((Tryd.prog.info? 4).map fun i => i.size == 0) = some false := by kernel_rfl -- nz32
theorem nz5 : ((Tryd.prog.info? 5).map fun i => i.size == 0) = some false := by kernel_rfl -- nz32
theorem nz22 : ((Tryd.prog.info? 22).map fun i => i.size == 0) = some false := by kernel_rfl -- nz32
theorem nz27 : ((Tryd.prog.info? 27).map fun i => i.size == 0) = some false := by kernel_rfl -- nz32
theorem nz29 : ((Tryd.prog.info? 29).map fun i => i.size == 0) = some false := by kernel_rfl -- nz32
theorem nz30 : ((Tryd.prog.info? 30).map fun i => i.size == 0) = some false := by kernel_rfl -- nz32
theorem nz31 : ((Tryd.prog.info? 31).map fun i => i.size == 0) = some false := by kernel_rfl -- nz32
theorem nz32 : ((Tryd.prog.info? 32).map fun i => i.size == 0) = some false := by kernel_rfl -- nz32
theorem nz44 : ((Tryd.prog.info? 44).map fun i => i.size == 0) = some false := by kernel_rfl -- nz32
theorem nz66 : ((Tryd.prog.info? 66).map fun i => i.size == 0) = some false := by kernel_rfl -- nz32
theorem nz69 : ((Tryd.prog.info? 69).map fun i => i.size == 0) = some false := by kernel_rfl -- nz32
theorem nz111 : ((Tryd.prog.info? 111).map fun i => i.size == 0) = some false := by kernel_rfl -- nz32
theorem nz139 : ((Tryd.prog.info? 139).map fun i => i.size == 0) = some false := by kernel_rfl -- nz32
theorem el5 : El Tryd.prog 5 (Value.int .u8 0) 1 1 := by unfold El; kernel_rfl
theorem el9 : El Tryd.prog 9 (Value.string ByteArray.empty) 1 16 := by unfold El; kernel_rfl
theorem el3 : El Tryd.prog 3 (Value.int .i64 0) 1 8 := by unfold El; kernel_rfl
theorem el44 : El Tryd.prog 44 (.agg (List.replicate 16 (Value.int .u8 0)).toArray) 16 16 := by unfold El; kernel_rfl
theorem el66 : El Tryd.prog 66 (.agg (List.replicate 2 (Value.int .i64 0)).toArray) 2 16 := by unfold El; kernel_rfl
theorem el27 : El Tryd.prog 27 (.slice none 0 0) 1 24 := by unfold El; kernel_rfl
theorem el69 : El Tryd.prog 69 (.slice none 0 0) 1 24 := by unfold El; kernel_rfl
theorem mixed : Tryd.prog.follows .mixedOrders = true := by kernel_rfl
end Go.Proofs.YtidfbboalbchiaaDoor
