/- The names of blobs of many noughts, reckoned by the kernel. Printed by zero.py. -/
import Derived.Test.YtfofkjajlfphjaaDoorZeroSha
import Derived.Test.YtfofkjajlfphjaaDoorPackC
set_option linter.unusedSimpArgs false
set_option linter.unusedVariables false
namespace Go.Proofs.YtfofkjajlfphjaaDoor
open Go
set_option maxRecDepth 100000
theorem za_0 : foldN 2 (beginL.map UInt32.toNat) (xorPad (hmKey (rg 3 3)) 0x36 ++ (2 :: List.replicate 63 0)) = [3153762067, 3942572987, 2473782472, 975426148, 391719930, 3465695576, 749542618, 1171198443] := by kernel_rfl
theorem za_c0 : itZ 256 [3153762067, 3942572987, 2473782472, 975426148, 391719930, 3465695576, 749542618, 1171198443] = [434146591, 3389059446, 1831914980, 4216262186, 725918473, 140292405, 777062261, 3987062900] := by kernel_rfl
theorem za_c1 : itZ 256 [434146591, 3389059446, 1831914980, 4216262186, 725918473, 140292405, 777062261, 3987062900] = [1183973018, 3879263690, 1505857681, 3267933989, 1796432574, 998219893, 4021204846, 1997290601] := by kernel_rfl
theorem za_c2 : itZ 256 [1183973018, 3879263690, 1505857681, 3267933989, 1796432574, 998219893, 4021204846, 1997290601] = [3973500486, 2037850075, 1052697554, 195815392, 2479071973, 2880613603, 3911105109, 413606168] := by kernel_rfl
theorem za_c3 : itZ 256 [3973500486, 2037850075, 1052697554, 195815392, 2479071973, 2880613603, 3911105109, 413606168] = [1858359637, 1865427152, 3850633074, 1896075765, 3525840021, 1600738787, 819480669, 2097563152] := by kernel_rfl
theorem za_c4 : itZ 256 [1858359637, 1865427152, 3850633074, 1896075765, 3525840021, 1600738787, 819480669, 2097563152] = [1886900227, 46475676, 2658315069, 3261386761, 3383778983, 3900343176, 2108071927, 1241347341] := by kernel_rfl
theorem za_c5 : itZ 256 [1886900227, 46475676, 2658315069, 3261386761, 3383778983, 3900343176, 2108071927, 1241347341] = [2199822878, 831296125, 4213488411, 3929765715, 2735813990, 1872185575, 735536507, 3664390007] := by kernel_rfl
theorem za_c6 : itZ 256 [2199822878, 831296125, 4213488411, 3929765715, 2735813990, 1872185575, 735536507, 3664390007] = [2354816384, 2533510982, 2346314934, 809859988, 463754265, 2912992365, 1127151008, 1049854998] := by kernel_rfl
theorem za_c7 : itZ 255 [2354816384, 2533510982, 2346314934, 809859988, 463754265, 2912992365, 1127151008, 1049854998] = [836878892, 2528484140, 368440180, 3190357307, 1180618826, 1705081892, 1933595684, 3366256099] := by kernel_rfl
theorem za_all : itZ 2047 (foldN 2 (beginL.map UInt32.toNat) (xorPad (hmKey (rg 3 3)) 0x36 ++ (2 :: List.replicate 63 0))) = [836878892, 2528484140, 368440180, 3190357307, 1180618826, 1705081892, 1933595684, 3366256099] := by
  rw [za_0, show 2047 = 256 + 256 + 256 + 256 + 256 + 256 + 256 + 255 from rfl, itZ_add, itZ_add, itZ_add, itZ_add, itZ_add, itZ_add, itZ_add, za_c0, za_c1, za_c2, za_c3, za_c4, za_c5, za_c6, za_c7]
theorem id2_0_i : sumL (xorPad (hmKey (rg 3 3)) 0x36 ++ (2 :: (List.replicate 131071 0 ++ [1]))) = [68, 236, 80, 18, 59, 200, 191, 89, 18, 154, 217, 123, 251, 12, 47, 152, 64, 61, 9, 26, 85, 88, 29, 238, 100, 22, 70, 152, 3, 2, 89, 12] := by
  rw [sum_zero (P := (xorPad (hmKey (rg 3 3)) 0x36 ++ (2 :: List.replicate 63 0))) (t := ([1] : List UInt8)) (n := 2047) (r := 0) (nb := 1) (L := 131137) (by rfl) (zmsg rfl) rfl rfl, za_all]; kernel_rfl
theorem id2_0 : idF (rg 3 3) 2 (List.replicate 131071 0 ++ [1]) = [136, 218, 30, 147, 179, 79, 255, 223, 57, 66, 57, 148, 140, 46, 11, 28, 63, 128, 207, 223, 155, 9, 108, 171, 92, 25, 70, 221, 77, 50, 11, 121] := by
  rw [idF, keyedL, id2_0_i, sum_nat]; kernel_rfl
theorem id2_1_i : sumL (xorPad (hmKey (rg 3 3)) 0x36 ++ (2 :: (List.replicate 131071 0 ++ [2]))) = [11, 250, 142, 115, 174, 11, 164, 34, 64, 16, 207, 101, 116, 108, 164, 244, 112, 48, 204, 180, 41, 113, 144, 103, 4, 5, 53, 79, 8, 113, 210, 40] := by
  rw [sum_zero (P := (xorPad (hmKey (rg 3 3)) 0x36 ++ (2 :: List.replicate 63 0))) (t := ([2] : List UInt8)) (n := 2047) (r := 0) (nb := 1) (L := 131137) (by rfl) (zmsg rfl) rfl rfl, za_all]; kernel_rfl
theorem id2_1 : idF (rg 3 3) 2 (List.replicate 131071 0 ++ [2]) = [75, 47, 129, 85, 68, 159, 72, 45, 147, 177, 113, 104, 30, 51, 28, 46, 219, 62, 3, 24, 255, 31, 122, 241, 252, 247, 14, 64, 148, 211, 200, 57] := by
  rw [idF, keyedL, id2_1_i, sum_nat]; kernel_rfl
theorem id2_2_i : sumL (xorPad (hmKey (rg 3 3)) 0x36 ++ (2 :: (List.replicate 131071 0 ++ [3]))) = [77, 105, 108, 147, 174, 130, 254, 26, 84, 196, 161, 144, 93, 185, 116, 124, 245, 0, 54, 8, 112, 232, 121, 223, 234, 13, 237, 115, 63, 151, 185, 113] := by
  rw [sum_zero (P := (xorPad (hmKey (rg 3 3)) 0x36 ++ (2 :: List.replicate 63 0))) (t := ([3] : List UInt8)) (n := 2047) (r := 0) (nb := 1) (L := 131137) (by rfl) (zmsg rfl) rfl rfl, za_all]; kernel_rfl
theorem id2_2 : idF (rg 3 3) 2 (List.replicate 131071 0 ++ [3]) = [200, 95, 69, 85, 208, 113, 194, 154, 159, 136, 83, 196, 10, 251, 179, 75, 19, 118, 123, 255, 241, 8, 211, 23, 57, 81, 154, 215, 52, 24, 188, 232] := by
  rw [idF, keyedL, id2_2_i, sum_nat]; kernel_rfl
theorem id2_3_i : sumL (xorPad (hmKey (rg 3 3)) 0x36 ++ (2 :: (List.replicate 131071 0 ++ [4]))) = [112, 91, 149, 84, 0, 34, 110, 233, 187, 164, 72, 148, 104, 102, 2, 146, 83, 210, 117, 181, 171, 35, 217, 35, 5, 186, 219, 113, 107, 155, 208, 129] := by
  rw [sum_zero (P := (xorPad (hmKey (rg 3 3)) 0x36 ++ (2 :: List.replicate 63 0))) (t := ([4] : List UInt8)) (n := 2047) (r := 0) (nb := 1) (L := 131137) (by rfl) (zmsg rfl) rfl rfl, za_all]; kernel_rfl
theorem id2_3 : idF (rg 3 3) 2 (List.replicate 131071 0 ++ [4]) = [57, 63, 73, 244, 218, 191, 174, 74, 182, 138, 96, 246, 235, 211, 25, 30, 96, 186, 128, 101, 158, 12, 62, 221, 85, 225, 151, 49, 213, 226, 0, 207] := by
  rw [idF, keyedL, id2_3_i, sum_nat]; kernel_rfl
theorem id2_4_i : sumL (xorPad (hmKey (rg 3 3)) 0x36 ++ (2 :: (List.replicate 131071 0 ++ [5]))) = [79, 109, 23, 114, 79, 61, 115, 158, 89, 229, 213, 142, 16, 45, 28, 124, 59, 103, 81, 25, 212, 9, 227, 150, 242, 33, 141, 160, 197, 165, 98, 223] := by
  rw [sum_zero (P := (xorPad (hmKey (rg 3 3)) 0x36 ++ (2 :: List.replicate 63 0))) (t := ([5] : List UInt8)) (n := 2047) (r := 0) (nb := 1) (L := 131137) (by rfl) (zmsg rfl) rfl rfl, za_all]; kernel_rfl
theorem id2_4 : idF (rg 3 3) 2 (List.replicate 131071 0 ++ [5]) = [28, 237, 159, 19, 227, 10, 81, 48, 189, 114, 93, 233, 160, 212, 183, 186, 32, 27, 155, 101, 7, 55, 169, 240, 209, 36, 60, 171, 220, 47, 123, 120] := by
  rw [idF, keyedL, id2_4_i, sum_nat]; kernel_rfl
theorem id2_5_i : sumL (xorPad (hmKey (rg 3 3)) 0x36 ++ (2 :: (List.replicate 131071 0 ++ [6]))) = [96, 178, 148, 145, 106, 57, 172, 202, 46, 6, 39, 204, 41, 136, 237, 172, 106, 50, 237, 174, 52, 53, 107, 25, 206, 7, 114, 65, 136, 172, 222, 180] := by
  rw [sum_zero (P := (xorPad (hmKey (rg 3 3)) 0x36 ++ (2 :: List.replicate 63 0))) (t := ([6] : List UInt8)) (n := 2047) (r := 0) (nb := 1) (L := 131137) (by rfl) (zmsg rfl) rfl rfl, za_all]; kernel_rfl
theorem id2_5 : idF (rg 3 3) 2 (List.replicate 131071 0 ++ [6]) = [246, 70, 106, 190, 169, 107, 123, 1, 24, 228, 138, 114, 139, 52, 49, 126, 234, 187, 219, 159, 182, 139, 51, 209, 100, 39, 46, 164, 41, 187, 145, 137] := by
  rw [idF, keyedL, id2_5_i, sum_nat]; kernel_rfl
theorem id2_6_i : sumL (xorPad (hmKey (rg 3 3)) 0x36 ++ (2 :: (List.replicate 131071 0 ++ [7]))) = [206, 251, 218, 81, 132, 249, 162, 241, 77, 208, 232, 124, 30, 148, 64, 103, 134, 141, 155, 203, 27, 8, 240, 13, 231, 137, 34, 118, 196, 0, 240, 55] := by
  rw [sum_zero (P := (xorPad (hmKey (rg 3 3)) 0x36 ++ (2 :: List.replicate 63 0))) (t := ([7] : List UInt8)) (n := 2047) (r := 0) (nb := 1) (L := 131137) (by rfl) (zmsg rfl) rfl rfl, za_all]; kernel_rfl
theorem id2_6 : idF (rg 3 3) 2 (List.replicate 131071 0 ++ [7]) = [54, 67, 50, 151, 21, 36, 218, 69, 202, 126, 165, 166, 131, 224, 89, 155, 81, 129, 107, 9, 84, 97, 10, 17, 117, 229, 22, 48, 71, 246, 238, 169] := by
  rw [idF, keyedL, id2_6_i, sum_nat]; kernel_rfl
theorem id2_7_i : sumL (xorPad (hmKey (rg 3 3)) 0x36 ++ (2 :: (List.replicate 131071 0 ++ [8]))) = [145, 29, 254, 37, 29, 248, 3, 92, 53, 76, 33, 116, 169, 117, 113, 148, 205, 72, 122, 44, 33, 189, 69, 96, 173, 236, 194, 60, 134, 246, 212, 200] := by
  rw [sum_zero (P := (xorPad (hmKey (rg 3 3)) 0x36 ++ (2 :: List.replicate 63 0))) (t := ([8] : List UInt8)) (n := 2047) (r := 0) (nb := 1) (L := 131137) (by rfl) (zmsg rfl) rfl rfl, za_all]; kernel_rfl
theorem id2_7 : idF (rg 3 3) 2 (List.replicate 131071 0 ++ [8]) = [128, 190, 166, 107, 246, 44, 146, 100, 233, 172, 174, 122, 50, 175, 24, 130, 63, 51, 182, 67, 238, 208, 223, 245, 165, 233, 157, 52, 138, 240, 31, 147] := by
  rw [idF, keyedL, id2_7_i, sum_nat]; kernel_rfl
end Go.Proofs.YtfofkjajlfphjaaDoor
