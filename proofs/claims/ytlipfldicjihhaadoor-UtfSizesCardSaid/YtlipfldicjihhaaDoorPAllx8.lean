-- made by xprint.py of this session
import Derived.Test.YtlipfldicjihhaaDoorPAllx0
import Derived.Test.YtlipfldicjihhaaDoorPAllx1
import Derived.Test.YtlipfldicjihhaaDoorPAllx2
import Derived.Test.YtlipfldicjihhaaDoorPAllx5
import Derived.Test.YtlipfldicjihhaaDoorPAllx7
namespace Go.Proofs.YtlipfldicjihhaaDoor.PAll
open Go.RowKit Go.Proofs.YtlipfldicjihhaaDoorW.PrintWords Go.Proofs.YtlipfldicjihhaaDoorW.PrintLast Go.Proofs.YtlipfldicjihhaaDoorW.PrintMore
attribute [local go_sem] max2_int min2_int max_two min_two max_three min_three max_four min_four   -- for this text's walks alone
set_option linter.unusedVariables false
set_option linter.unusedSimpArgs false

/-! ### hornbooklaw02_UtfSizes: function 4 -/
mutual
def hornbooklaw02_UtfSizes.j0 : Nat → Int → Bool → ByteArray → List Int → Int → Option (Bool)
  | 0, _, _, _, _, _ => none
  | k + 1, x0, x3, x4, x5, x6 => if x0 < 2048 then (hornbooklaw02_UtfSizes.j1 k x0 x3 x4 x5 2) else (hornbooklaw02_UtfSizes.j1 k x0 x3 x4 x5 x6)
def hornbooklaw02_UtfSizes.j1 : Nat → Int → Bool → ByteArray → List Int → Int → Option (Bool)
  | 0, _, _, _, _, _ => none
  | k + 1, x0, x3, x4, x5, x6 => if x0 < 128 then (if (x4.size : Int) = 1 then (if 0 < (x4.size : Int) then (if 1 = 1 then (if (bt x4 0) < 128 then (if x3 = true then (if (((x5.length : Int) == 1) == (decide (x0 < 65536))) = true then (if 1 ≤ (x4.size : Int) then ((utf_Runes.f (x4.extract 1 x4.size)).bind fun t205 => (some ((t205.length : Int) == (1 - 1)))) else (none)) else (none)) else (none)) else (if 1 = 2 then (if (bt x4 0) ≥ 194 then (if (bt x4 0) < 224 then (if x3 = true then (if (((x5.length : Int) == 1) == (decide (x0 < 65536))) = true then (if 1 ≤ (x4.size : Int) then ((utf_Runes.f (x4.extract 1 x4.size)).bind fun t208 => (some ((t208.length : Int) == (1 - 1)))) else (none)) else (none)) else (none)) else (if 1 = 3 then (if (bt x4 0) ≥ 224 then (if (bt x4 0) < 240 then (if x3 = true then (if (((x5.length : Int) == 1) == (decide (x0 < 65536))) = true then (if 1 ≤ (x4.size : Int) then ((utf_Runes.f (x4.extract 1 x4.size)).bind fun t211 => (some ((t211.length : Int) == (1 - 1)))) else (none)) else (none)) else (none)) else (if 1 = 4 then (if (bt x4 0) ≥ 240 then (if x3 = true then (if (bt x4 0) < 245 then (if (((x5.length : Int) == 1) == (decide (x0 < 65536))) = true then (if 1 ≤ (x4.size : Int) then ((utf_Runes.f (x4.extract 1 x4.size)).bind fun t214 => (some ((t214.length : Int) == (1 - 1)))) else (none)) else (none)) else (none)) else (none)) else (if x3 = true then (none) else (none))) else (if x3 = true then (none) else (none)))) else (if 1 = 4 then (if (bt x4 0) ≥ 240 then (if x3 = true then (if (bt x4 0) < 245 then (if (((x5.length : Int) == 1) == (decide (x0 < 65536))) = true then (if 1 ≤ (x4.size : Int) then ((utf_Runes.f (x4.extract 1 x4.size)).bind fun t217 => (some ((t217.length : Int) == (1 - 1)))) else (none)) else (none)) else (none)) else (none)) else (if x3 = true then (none) else (none))) else (if x3 = true then (none) else (none)))) else (if 1 = 4 then (if (bt x4 0) ≥ 240 then (if x3 = true then (if (bt x4 0) < 245 then (if (((x5.length : Int) == 1) == (decide (x0 < 65536))) = true then (if 1 ≤ (x4.size : Int) then ((utf_Runes.f (x4.extract 1 x4.size)).bind fun t220 => (some ((t220.length : Int) == (1 - 1)))) else (none)) else (none)) else (none)) else (none)) else (if x3 = true then (none) else (none))) else (if x3 = true then (none) else (none))))) else (if 1 = 3 then (if (bt x4 0) ≥ 224 then (if (bt x4 0) < 240 then (if x3 = true then (if (((x5.length : Int) == 1) == (decide (x0 < 65536))) = true then (if 1 ≤ (x4.size : Int) then ((utf_Runes.f (x4.extract 1 x4.size)).bind fun t223 => (some ((t223.length : Int) == (1 - 1)))) else (none)) else (none)) else (none)) else (if 1 = 4 then (if (bt x4 0) ≥ 240 then (if x3 = true then (if (bt x4 0) < 245 then (if (((x5.length : Int) == 1) == (decide (x0 < 65536))) = true then (if 1 ≤ (x4.size : Int) then ((utf_Runes.f (x4.extract 1 x4.size)).bind fun t226 => (some ((t226.length : Int) == (1 - 1)))) else (none)) else (none)) else (none)) else (none)) else (if x3 = true then (none) else (none))) else (if x3 = true then (none) else (none)))) else (if 1 = 4 then (if (bt x4 0) ≥ 240 then (if x3 = true then (if (bt x4 0) < 245 then (if (((x5.length : Int) == 1) == (decide (x0 < 65536))) = true then (if 1 ≤ (x4.size : Int) then ((utf_Runes.f (x4.extract 1 x4.size)).bind fun t229 => (some ((t229.length : Int) == (1 - 1)))) else (none)) else (none)) else (none)) else (none)) else (if x3 = true then (none) else (none))) else (if x3 = true then (none) else (none)))) else (if 1 = 4 then (if (bt x4 0) ≥ 240 then (if x3 = true then (if (bt x4 0) < 245 then (if (((x5.length : Int) == 1) == (decide (x0 < 65536))) = true then (if 1 ≤ (x4.size : Int) then ((utf_Runes.f (x4.extract 1 x4.size)).bind fun t232 => (some ((t232.length : Int) == (1 - 1)))) else (none)) else (none)) else (none)) else (none)) else (if x3 = true then (none) else (none))) else (if x3 = true then (none) else (none))))) else (if 1 = 3 then (if (bt x4 0) ≥ 224 then (if (bt x4 0) < 240 then (if x3 = true then (if (((x5.length : Int) == 1) == (decide (x0 < 65536))) = true then (if 1 ≤ (x4.size : Int) then ((utf_Runes.f (x4.extract 1 x4.size)).bind fun t235 => (some ((t235.length : Int) == (1 - 1)))) else (none)) else (none)) else (none)) else (if 1 = 4 then (if (bt x4 0) ≥ 240 then (if x3 = true then (if (bt x4 0) < 245 then (if (((x5.length : Int) == 1) == (decide (x0 < 65536))) = true then (if 1 ≤ (x4.size : Int) then ((utf_Runes.f (x4.extract 1 x4.size)).bind fun t238 => (some ((t238.length : Int) == (1 - 1)))) else (none)) else (none)) else (none)) else (none)) else (if x3 = true then (none) else (none))) else (if x3 = true then (none) else (none)))) else (if 1 = 4 then (if (bt x4 0) ≥ 240 then (if x3 = true then (if (bt x4 0) < 245 then (if (((x5.length : Int) == 1) == (decide (x0 < 65536))) = true then (if 1 ≤ (x4.size : Int) then ((utf_Runes.f (x4.extract 1 x4.size)).bind fun t241 => (some ((t241.length : Int) == (1 - 1)))) else (none)) else (none)) else (none)) else (none)) else (if x3 = true then (none) else (none))) else (if x3 = true then (none) else (none)))) else (if 1 = 4 then (if (bt x4 0) ≥ 240 then (if x3 = true then (if (bt x4 0) < 245 then (if (((x5.length : Int) == 1) == (decide (x0 < 65536))) = true then (if 1 ≤ (x4.size : Int) then ((utf_Runes.f (x4.extract 1 x4.size)).bind fun t244 => (some ((t244.length : Int) == (1 - 1)))) else (none)) else (none)) else (none)) else (none)) else (if x3 = true then (none) else (none))) else (if x3 = true then (none) else (none)))))) else (if 1 = 2 then (if (bt x4 0) ≥ 194 then (if (bt x4 0) < 224 then (if x3 = true then (if (((x5.length : Int) == 1) == (decide (x0 < 65536))) = true then (if 1 ≤ (x4.size : Int) then ((utf_Runes.f (x4.extract 1 x4.size)).bind fun t247 => (some ((t247.length : Int) == (1 - 1)))) else (none)) else (none)) else (none)) else (if 1 = 3 then (if (bt x4 0) ≥ 224 then (if (bt x4 0) < 240 then (if x3 = true then (if (((x5.length : Int) == 1) == (decide (x0 < 65536))) = true then (if 1 ≤ (x4.size : Int) then ((utf_Runes.f (x4.extract 1 x4.size)).bind fun t250 => (some ((t250.length : Int) == (1 - 1)))) else (none)) else (none)) else (none)) else (if 1 = 4 then (if (bt x4 0) ≥ 240 then (if x3 = true then (if (bt x4 0) < 245 then (if (((x5.length : Int) == 1) == (decide (x0 < 65536))) = true then (if 1 ≤ (x4.size : Int) then ((utf_Runes.f (x4.extract 1 x4.size)).bind fun t253 => (some ((t253.length : Int) == (1 - 1)))) else (none)) else (none)) else (none)) else (none)) else (if x3 = true then (none) else (none))) else (if x3 = true then (none) else (none)))) else (if 1 = 4 then (if (bt x4 0) ≥ 240 then (if x3 = true then (if (bt x4 0) < 245 then (if (((x5.length : Int) == 1) == (decide (x0 < 65536))) = true then (if 1 ≤ (x4.size : Int) then ((utf_Runes.f (x4.extract 1 x4.size)).bind fun t256 => (some ((t256.length : Int) == (1 - 1)))) else (none)) else (none)) else (none)) else (none)) else (if x3 = true then (none) else (none))) else (if x3 = true then (none) else (none)))) else (if 1 = 4 then (if (bt x4 0) ≥ 240 then (if x3 = true then (if (bt x4 0) < 245 then (if (((x5.length : Int) == 1) == (decide (x0 < 65536))) = true then (if 1 ≤ (x4.size : Int) then ((utf_Runes.f (x4.extract 1 x4.size)).bind fun t259 => (some ((t259.length : Int) == (1 - 1)))) else (none)) else (none)) else (none)) else (none)) else (if x3 = true then (none) else (none))) else (if x3 = true then (none) else (none))))) else (if 1 = 3 then (if (bt x4 0) ≥ 224 then (if (bt x4 0) < 240 then (if x3 = true then (if (((x5.length : Int) == 1) == (decide (x0 < 65536))) = true then (if 1 ≤ (x4.size : Int) then ((utf_Runes.f (x4.extract 1 x4.size)).bind fun t262 => (some ((t262.length : Int) == (1 - 1)))) else (none)) else (none)) else (none)) else (if 1 = 4 then (if (bt x4 0) ≥ 240 then (if x3 = true then (if (bt x4 0) < 245 then (if (((x5.length : Int) == 1) == (decide (x0 < 65536))) = true then (if 1 ≤ (x4.size : Int) then ((utf_Runes.f (x4.extract 1 x4.size)).bind fun t265 => (some ((t265.length : Int) == (1 - 1)))) else (none)) else (none)) else (none)) else (none)) else (if x3 = true then (none) else (none))) else (if x3 = true then (none) else (none)))) else (if 1 = 4 then (if (bt x4 0) ≥ 240 then (if x3 = true then (if (bt x4 0) < 245 then (if (((x5.length : Int) == 1) == (decide (x0 < 65536))) = true then (if 1 ≤ (x4.size : Int) then ((utf_Runes.f (x4.extract 1 x4.size)).bind fun t268 => (some ((t268.length : Int) == (1 - 1)))) else (none)) else (none)) else (none)) else (none)) else (if x3 = true then (none) else (none))) else (if x3 = true then (none) else (none)))) else (if 1 = 4 then (if (bt x4 0) ≥ 240 then (if x3 = true then (if (bt x4 0) < 245 then (if (((x5.length : Int) == 1) == (decide (x0 < 65536))) = true then (if 1 ≤ (x4.size : Int) then ((utf_Runes.f (x4.extract 1 x4.size)).bind fun t271 => (some ((t271.length : Int) == (1 - 1)))) else (none)) else (none)) else (none)) else (none)) else (if x3 = true then (none) else (none))) else (if x3 = true then (none) else (none))))) else (if 1 = 3 then (if (bt x4 0) ≥ 224 then (if (bt x4 0) < 240 then (if x3 = true then (if (((x5.length : Int) == 1) == (decide (x0 < 65536))) = true then (if 1 ≤ (x4.size : Int) then ((utf_Runes.f (x4.extract 1 x4.size)).bind fun t274 => (some ((t274.length : Int) == (1 - 1)))) else (none)) else (none)) else (none)) else (if 1 = 4 then (if (bt x4 0) ≥ 240 then (if x3 = true then (if (bt x4 0) < 245 then (if (((x5.length : Int) == 1) == (decide (x0 < 65536))) = true then (if 1 ≤ (x4.size : Int) then ((utf_Runes.f (x4.extract 1 x4.size)).bind fun t277 => (some ((t277.length : Int) == (1 - 1)))) else (none)) else (none)) else (none)) else (none)) else (if x3 = true then (none) else (none))) else (if x3 = true then (none) else (none)))) else (if 1 = 4 then (if (bt x4 0) ≥ 240 then (if x3 = true then (if (bt x4 0) < 245 then (if (((x5.length : Int) == 1) == (decide (x0 < 65536))) = true then (if 1 ≤ (x4.size : Int) then ((utf_Runes.f (x4.extract 1 x4.size)).bind fun t280 => (some ((t280.length : Int) == (1 - 1)))) else (none)) else (none)) else (none)) else (none)) else (if x3 = true then (none) else (none))) else (if x3 = true then (none) else (none)))) else (if 1 = 4 then (if (bt x4 0) ≥ 240 then (if x3 = true then (if (bt x4 0) < 245 then (if (((x5.length : Int) == 1) == (decide (x0 < 65536))) = true then (if 1 ≤ (x4.size : Int) then ((utf_Runes.f (x4.extract 1 x4.size)).bind fun t283 => (some ((t283.length : Int) == (1 - 1)))) else (none)) else (none)) else (none)) else (none)) else (if x3 = true then (none) else (none))) else (if x3 = true then (none) else (none)))))) else (none)) else (none)) else (if (x4.size : Int) = x6 then (if 0 < (x4.size : Int) then (if x6 = 1 then (if (bt x4 0) < 128 then (if x3 = true then (if (((x5.length : Int) == 1) == (decide (x0 < 65536))) = true then (if 1 ≤ (x4.size : Int) then ((utf_Runes.f (x4.extract 1 x4.size)).bind fun t286 => (some ((t286.length : Int) == (wrap64 (x6 - 1))))) else (none)) else (none)) else (none)) else (if x6 = 2 then (if (bt x4 0) ≥ 194 then (if (bt x4 0) < 224 then (if x3 = true then (if (((x5.length : Int) == 1) == (decide (x0 < 65536))) = true then (if 1 ≤ (x4.size : Int) then ((utf_Runes.f (x4.extract 1 x4.size)).bind fun t289 => (some ((t289.length : Int) == (wrap64 (x6 - 1))))) else (none)) else (none)) else (none)) else (if x6 = 3 then (if (bt x4 0) ≥ 224 then (if (bt x4 0) < 240 then (if x3 = true then (if (((x5.length : Int) == 1) == (decide (x0 < 65536))) = true then (if 1 ≤ (x4.size : Int) then ((utf_Runes.f (x4.extract 1 x4.size)).bind fun t292 => (some ((t292.length : Int) == (wrap64 (x6 - 1))))) else (none)) else (none)) else (none)) else (if x6 = 4 then (if (bt x4 0) ≥ 240 then (if x3 = true then (if (bt x4 0) < 245 then (if (((x5.length : Int) == 1) == (decide (x0 < 65536))) = true then (if 1 ≤ (x4.size : Int) then ((utf_Runes.f (x4.extract 1 x4.size)).bind fun t295 => (some ((t295.length : Int) == (wrap64 (x6 - 1))))) else (none)) else (none)) else (none)) else (none)) else (if x3 = true then (none) else (none))) else (if x3 = true then (none) else (none)))) else (if x6 = 4 then (if (bt x4 0) ≥ 240 then (if x3 = true then (if (bt x4 0) < 245 then (if (((x5.length : Int) == 1) == (decide (x0 < 65536))) = true then (if 1 ≤ (x4.size : Int) then ((utf_Runes.f (x4.extract 1 x4.size)).bind fun t298 => (some ((t298.length : Int) == (wrap64 (x6 - 1))))) else (none)) else (none)) else (none)) else (none)) else (if x3 = true then (none) else (none))) else (if x3 = true then (none) else (none)))) else (if x6 = 4 then (if (bt x4 0) ≥ 240 then (if x3 = true then (if (bt x4 0) < 245 then (if (((x5.length : Int) == 1) == (decide (x0 < 65536))) = true then (if 1 ≤ (x4.size : Int) then ((utf_Runes.f (x4.extract 1 x4.size)).bind fun t301 => (some ((t301.length : Int) == (wrap64 (x6 - 1))))) else (none)) else (none)) else (none)) else (none)) else (if x3 = true then (none) else (none))) else (if x3 = true then (none) else (none))))) else (if x6 = 3 then (if (bt x4 0) ≥ 224 then (if (bt x4 0) < 240 then (if x3 = true then (if (((x5.length : Int) == 1) == (decide (x0 < 65536))) = true then (if 1 ≤ (x4.size : Int) then ((utf_Runes.f (x4.extract 1 x4.size)).bind fun t304 => (some ((t304.length : Int) == (wrap64 (x6 - 1))))) else (none)) else (none)) else (none)) else (if x6 = 4 then (if (bt x4 0) ≥ 240 then (if x3 = true then (if (bt x4 0) < 245 then (if (((x5.length : Int) == 1) == (decide (x0 < 65536))) = true then (if 1 ≤ (x4.size : Int) then ((utf_Runes.f (x4.extract 1 x4.size)).bind fun t307 => (some ((t307.length : Int) == (wrap64 (x6 - 1))))) else (none)) else (none)) else (none)) else (none)) else (if x3 = true then (none) else (none))) else (if x3 = true then (none) else (none)))) else (if x6 = 4 then (if (bt x4 0) ≥ 240 then (if x3 = true then (if (bt x4 0) < 245 then (if (((x5.length : Int) == 1) == (decide (x0 < 65536))) = true then (if 1 ≤ (x4.size : Int) then ((utf_Runes.f (x4.extract 1 x4.size)).bind fun t310 => (some ((t310.length : Int) == (wrap64 (x6 - 1))))) else (none)) else (none)) else (none)) else (none)) else (if x3 = true then (none) else (none))) else (if x3 = true then (none) else (none)))) else (if x6 = 4 then (if (bt x4 0) ≥ 240 then (if x3 = true then (if (bt x4 0) < 245 then (if (((x5.length : Int) == 1) == (decide (x0 < 65536))) = true then (if 1 ≤ (x4.size : Int) then ((utf_Runes.f (x4.extract 1 x4.size)).bind fun t313 => (some ((t313.length : Int) == (wrap64 (x6 - 1))))) else (none)) else (none)) else (none)) else (none)) else (if x3 = true then (none) else (none))) else (if x3 = true then (none) else (none))))) else (if x6 = 3 then (if (bt x4 0) ≥ 224 then (if (bt x4 0) < 240 then (if x3 = true then (if (((x5.length : Int) == 1) == (decide (x0 < 65536))) = true then (if 1 ≤ (x4.size : Int) then ((utf_Runes.f (x4.extract 1 x4.size)).bind fun t316 => (some ((t316.length : Int) == (wrap64 (x6 - 1))))) else (none)) else (none)) else (none)) else (if x6 = 4 then (if (bt x4 0) ≥ 240 then (if x3 = true then (if (bt x4 0) < 245 then (if (((x5.length : Int) == 1) == (decide (x0 < 65536))) = true then (if 1 ≤ (x4.size : Int) then ((utf_Runes.f (x4.extract 1 x4.size)).bind fun t319 => (some ((t319.length : Int) == (wrap64 (x6 - 1))))) else (none)) else (none)) else (none)) else (none)) else (if x3 = true then (none) else (none))) else (if x3 = true then (none) else (none)))) else (if x6 = 4 then (if (bt x4 0) ≥ 240 then (if x3 = true then (if (bt x4 0) < 245 then (if (((x5.length : Int) == 1) == (decide (x0 < 65536))) = true then (if 1 ≤ (x4.size : Int) then ((utf_Runes.f (x4.extract 1 x4.size)).bind fun t322 => (some ((t322.length : Int) == (wrap64 (x6 - 1))))) else (none)) else (none)) else (none)) else (none)) else (if x3 = true then (none) else (none))) else (if x3 = true then (none) else (none)))) else (if x6 = 4 then (if (bt x4 0) ≥ 240 then (if x3 = true then (if (bt x4 0) < 245 then (if (((x5.length : Int) == 1) == (decide (x0 < 65536))) = true then (if 1 ≤ (x4.size : Int) then ((utf_Runes.f (x4.extract 1 x4.size)).bind fun t325 => (some ((t325.length : Int) == (wrap64 (x6 - 1))))) else (none)) else (none)) else (none)) else (none)) else (if x3 = true then (none) else (none))) else (if x3 = true then (none) else (none)))))) else (if x6 = 2 then (if (bt x4 0) ≥ 194 then (if (bt x4 0) < 224 then (if x3 = true then (if (((x5.length : Int) == 1) == (decide (x0 < 65536))) = true then (if 1 ≤ (x4.size : Int) then ((utf_Runes.f (x4.extract 1 x4.size)).bind fun t328 => (some ((t328.length : Int) == (wrap64 (x6 - 1))))) else (none)) else (none)) else (none)) else (if x6 = 3 then (if (bt x4 0) ≥ 224 then (if (bt x4 0) < 240 then (if x3 = true then (if (((x5.length : Int) == 1) == (decide (x0 < 65536))) = true then (if 1 ≤ (x4.size : Int) then ((utf_Runes.f (x4.extract 1 x4.size)).bind fun t331 => (some ((t331.length : Int) == (wrap64 (x6 - 1))))) else (none)) else (none)) else (none)) else (if x6 = 4 then (if (bt x4 0) ≥ 240 then (if x3 = true then (if (bt x4 0) < 245 then (if (((x5.length : Int) == 1) == (decide (x0 < 65536))) = true then (if 1 ≤ (x4.size : Int) then ((utf_Runes.f (x4.extract 1 x4.size)).bind fun t334 => (some ((t334.length : Int) == (wrap64 (x6 - 1))))) else (none)) else (none)) else (none)) else (none)) else (if x3 = true then (none) else (none))) else (if x3 = true then (none) else (none)))) else (if x6 = 4 then (if (bt x4 0) ≥ 240 then (if x3 = true then (if (bt x4 0) < 245 then (if (((x5.length : Int) == 1) == (decide (x0 < 65536))) = true then (if 1 ≤ (x4.size : Int) then ((utf_Runes.f (x4.extract 1 x4.size)).bind fun t337 => (some ((t337.length : Int) == (wrap64 (x6 - 1))))) else (none)) else (none)) else (none)) else (none)) else (if x3 = true then (none) else (none))) else (if x3 = true then (none) else (none)))) else (if x6 = 4 then (if (bt x4 0) ≥ 240 then (if x3 = true then (if (bt x4 0) < 245 then (if (((x5.length : Int) == 1) == (decide (x0 < 65536))) = true then (if 1 ≤ (x4.size : Int) then ((utf_Runes.f (x4.extract 1 x4.size)).bind fun t340 => (some ((t340.length : Int) == (wrap64 (x6 - 1))))) else (none)) else (none)) else (none)) else (none)) else (if x3 = true then (none) else (none))) else (if x3 = true then (none) else (none))))) else (if x6 = 3 then (if (bt x4 0) ≥ 224 then (if (bt x4 0) < 240 then (if x3 = true then (if (((x5.length : Int) == 1) == (decide (x0 < 65536))) = true then (if 1 ≤ (x4.size : Int) then ((utf_Runes.f (x4.extract 1 x4.size)).bind fun t343 => (some ((t343.length : Int) == (wrap64 (x6 - 1))))) else (none)) else (none)) else (none)) else (if x6 = 4 then (if (bt x4 0) ≥ 240 then (if x3 = true then (if (bt x4 0) < 245 then (if (((x5.length : Int) == 1) == (decide (x0 < 65536))) = true then (if 1 ≤ (x4.size : Int) then ((utf_Runes.f (x4.extract 1 x4.size)).bind fun t346 => (some ((t346.length : Int) == (wrap64 (x6 - 1))))) else (none)) else (none)) else (none)) else (none)) else (if x3 = true then (none) else (none))) else (if x3 = true then (none) else (none)))) else (if x6 = 4 then (if (bt x4 0) ≥ 240 then (if x3 = true then (if (bt x4 0) < 245 then (if (((x5.length : Int) == 1) == (decide (x0 < 65536))) = true then (if 1 ≤ (x4.size : Int) then ((utf_Runes.f (x4.extract 1 x4.size)).bind fun t349 => (some ((t349.length : Int) == (wrap64 (x6 - 1))))) else (none)) else (none)) else (none)) else (none)) else (if x3 = true then (none) else (none))) else (if x3 = true then (none) else (none)))) else (if x6 = 4 then (if (bt x4 0) ≥ 240 then (if x3 = true then (if (bt x4 0) < 245 then (if (((x5.length : Int) == 1) == (decide (x0 < 65536))) = true then (if 1 ≤ (x4.size : Int) then ((utf_Runes.f (x4.extract 1 x4.size)).bind fun t352 => (some ((t352.length : Int) == (wrap64 (x6 - 1))))) else (none)) else (none)) else (none)) else (none)) else (if x3 = true then (none) else (none))) else (if x3 = true then (none) else (none))))) else (if x6 = 3 then (if (bt x4 0) ≥ 224 then (if (bt x4 0) < 240 then (if x3 = true then (if (((x5.length : Int) == 1) == (decide (x0 < 65536))) = true then (if 1 ≤ (x4.size : Int) then ((utf_Runes.f (x4.extract 1 x4.size)).bind fun t355 => (some ((t355.length : Int) == (wrap64 (x6 - 1))))) else (none)) else (none)) else (none)) else (if x6 = 4 then (if (bt x4 0) ≥ 240 then (if x3 = true then (if (bt x4 0) < 245 then (if (((x5.length : Int) == 1) == (decide (x0 < 65536))) = true then (if 1 ≤ (x4.size : Int) then ((utf_Runes.f (x4.extract 1 x4.size)).bind fun t358 => (some ((t358.length : Int) == (wrap64 (x6 - 1))))) else (none)) else (none)) else (none)) else (none)) else (if x3 = true then (none) else (none))) else (if x3 = true then (none) else (none)))) else (if x6 = 4 then (if (bt x4 0) ≥ 240 then (if x3 = true then (if (bt x4 0) < 245 then (if (((x5.length : Int) == 1) == (decide (x0 < 65536))) = true then (if 1 ≤ (x4.size : Int) then ((utf_Runes.f (x4.extract 1 x4.size)).bind fun t361 => (some ((t361.length : Int) == (wrap64 (x6 - 1))))) else (none)) else (none)) else (none)) else (none)) else (if x3 = true then (none) else (none))) else (if x3 = true then (none) else (none)))) else (if x6 = 4 then (if (bt x4 0) ≥ 240 then (if x3 = true then (if (bt x4 0) < 245 then (if (((x5.length : Int) == 1) == (decide (x0 < 65536))) = true then (if 1 ≤ (x4.size : Int) then ((utf_Runes.f (x4.extract 1 x4.size)).bind fun t364 => (some ((t364.length : Int) == (wrap64 (x6 - 1))))) else (none)) else (none)) else (none)) else (none)) else (if x3 = true then (none) else (none))) else (if x3 = true then (none) else (none)))))) else (none)) else (none))
end
def hornbooklaw02_UtfSizes.f (k : Nat) (a0 : Int) : Option (Bool) := (hornbooklaw02_awake.f k).bind fun t192 => ((utf_Text.f (([a0] : List Int))).bind fun t196 => ((utf_Enc16.f k (([a0] : List Int))).bind fun t200 => ((utf_Good.f a0).bind fun t203 => (if t203 = true then (if a0 < 65536 then (hornbooklaw02_UtfSizes.j0 k a0 t192 t196 t200 3) else (hornbooklaw02_UtfSizes.j0 k a0 t192 t196 t200 4)) else (if t192 = true then (if t196.toList = ([239, 191, 189] : List UInt8) then (if (t200.length : Int) = 1 then (if 0 < (t200.length : Int) then (some ((rd t200 0) == 65533)) else (none)) else (none)) else (none)) else (none))))))
theorem hornbooklaw02_UtfSizes.mono_l : ∀ k, (∀ y0 y1 y2 y3 y4, LeO (hornbooklaw02_UtfSizes.j0 k y0 y1 y2 y3 y4) (hornbooklaw02_UtfSizes.j0 (k + 1) y0 y1 y2 y3 y4)) ∧ (∀ y0 y1 y2 y3 y4, LeO (hornbooklaw02_UtfSizes.j1 k y0 y1 y2 y3 y4) (hornbooklaw02_UtfSizes.j1 (k + 1) y0 y1 y2 y3 y4))
  | 0 => ⟨fun _ _ _ _ _ r h => by simp [hornbooklaw02_UtfSizes.j0] at h, fun _ _ _ _ _ r h => by simp [hornbooklaw02_UtfSizes.j1] at h⟩
  | k + 1 => by
    obtain ⟨ih0, ih1⟩ := hornbooklaw02_UtfSizes.mono_l k
    refine ⟨?_, ?_⟩
    · intro y0 y1 y2 y3 y4
      unfold hornbooklaw02_UtfSizes.j0
      repeat' first
      | (with_reducible exact ih0 _ _ _ _ _)
      | (with_reducible exact ih1 _ _ _ _ _)
      | (with_reducible exact hornbooklaw02_awake.mono _)
      | (with_reducible exact utf_Enc16.mono _ _)
      | (with_reducible exact LeO.refl _)
      | (with_reducible exact LeO.none _)
      | (with_reducible refine LeO.ite ?_ ?_)
      | (with_reducible refine LeO.bind ?_ (fun _ => ?_))
      | exact ih0 _ _ _ _ _
      | exact ih1 _ _ _ _ _
      | exact hornbooklaw02_awake.mono _
      | exact utf_Enc16.mono _ _
      | exact LeO.none _
      | refine LeO.ite ?_ ?_
      | refine LeO.bind ?_ (fun _ => ?_)
    · intro y0 y1 y2 y3 y4
      unfold hornbooklaw02_UtfSizes.j1
      repeat' first
      | (with_reducible exact ih0 _ _ _ _ _)
      | (with_reducible exact ih1 _ _ _ _ _)
      | (with_reducible exact hornbooklaw02_awake.mono _)
      | (with_reducible exact utf_Enc16.mono _ _)
      | (with_reducible exact LeO.refl _)
      | (with_reducible exact LeO.none _)
      | (with_reducible refine LeO.ite ?_ ?_)
      | (with_reducible refine LeO.bind ?_ (fun _ => ?_))
      | exact ih0 _ _ _ _ _
      | exact ih1 _ _ _ _ _
      | exact hornbooklaw02_awake.mono _
      | exact utf_Enc16.mono _ _
      | exact LeO.none _
      | refine LeO.ite ?_ ?_
      | refine LeO.bind ?_ (fun _ => ?_)
theorem hornbooklaw02_UtfSizes.mono : ∀ a0 k, LeO (hornbooklaw02_UtfSizes.f k a0) (hornbooklaw02_UtfSizes.f (k + 1) a0) := by
  intro a0 k
  obtain ⟨ih0, ih1⟩ := hornbooklaw02_UtfSizes.mono_l k
  unfold hornbooklaw02_UtfSizes.f
  repeat' first
      | (with_reducible exact ih0 _ _ _ _ _)
      | (with_reducible exact ih1 _ _ _ _ _)
      | (with_reducible exact hornbooklaw02_awake.mono _)
      | (with_reducible exact utf_Enc16.mono _ _)
      | (with_reducible exact LeO.refl _)
      | (with_reducible exact LeO.none _)
      | (with_reducible refine LeO.ite ?_ ?_)
      | (with_reducible refine LeO.bind ?_ (fun _ => ?_))
      | exact ih0 _ _ _ _ _
      | exact ih1 _ _ _ _ _
      | exact hornbooklaw02_awake.mono _
      | exact utf_Enc16.mono _ _
      | exact LeO.none _
      | refine LeO.ite ?_ ?_
      | refine LeO.bind ?_ (fun _ => ?_)
set_option maxHeartbeats 8000000 in
set_option maxRecDepth 100000 in
theorem hornbooklaw02_UtfSizes.calls (k : Nat) (a0 : Int) (r : Bool) (w : World) (h : hornbooklaw02_UtfSizes.f k a0 = some r) :
    Calls Tryd.prog 4 #[.int .i64 a0] w fun e w' => e = .returned (.bool r) ∧ Below w.heap.size w w' := by
  have HB := Aside0.mk (Below.refl w.heap.size w)
  have H : ((hornbooklaw02_awake.f k).bind fun t192 => ((utf_Text.f (([a0] : List Int))).bind fun t196 => ((utf_Enc16.f k (([a0] : List Int))).bind fun t200 => ((utf_Good.f a0).bind fun t203 => (if t203 = true then (if a0 < 65536 then (hornbooklaw02_UtfSizes.j0 k a0 t192 t196 t200 3) else (hornbooklaw02_UtfSizes.j0 k a0 t192 t196 t200 4)) else (if t192 = true then (if t196.toList = ([239, 191, 189] : List UInt8) then (if (t200.length : Int) = 1 then (if 0 < (t200.length : Int) then (some ((rd t200 0) == 65533)) else (none)) else (none)) else (none)) else (none))))))) = some r := h
  clear h
  replace H := Option.bind_eq_some_iff.mp H
  obtain ⟨t192, A20, H⟩ := H
  replace H : ((utf_Text.f (([a0] : List Int))).bind fun t196 => ((utf_Enc16.f k (([a0] : List Int))).bind fun t200 => ((utf_Good.f a0).bind fun t203 => (if t203 = true then (if a0 < 65536 then (hornbooklaw02_UtfSizes.j0 k a0 t192 t196 t200 3) else (hornbooklaw02_UtfSizes.j0 k a0 t192 t196 t200 4)) else (if t192 = true then (if t196.toList = ([239, 191, 189] : List UInt8) then (if (t200.length : Int) = 1 then (if 0 < (t200.length : Int) then (some ((rd t200 0) == 65533)) else (none)) else (none)) else (none)) else (none)))))) = some r := H
  have A2 := Aside0.mk A20
  clear A20
  obtain ⟨y193, hy193⟩ : ∃ y_ : List Int, y_ = (([a0] : List Int)) := ⟨_, rfl⟩
  replace H : ((utf_Text.f y193).bind fun t196 => ((utf_Enc16.f k (([a0] : List Int))).bind fun t200 => ((utf_Good.f a0).bind fun t203 => (if t203 = true then (if a0 < 65536 then (hornbooklaw02_UtfSizes.j0 k a0 t192 t196 t200 3) else (hornbooklaw02_UtfSizes.j0 k a0 t192 t196 t200 4)) else (if t192 = true then (if t196.toList = ([239, 191, 189] : List UInt8) then (if (t200.length : Int) = 1 then (if 0 < (t200.length : Int) then (some ((rd t200 0) == 65533)) else (none)) else (none)) else (none)) else (none)))))) = some r := by first | (rw [hy193]; with_reducible exact H) | (have H2_ := (Option.bind_some _ _).symm.trans H; rw [hy193]; with_reducible exact H2_) | (have H2_ := (Option.bind_some _ _).symm.trans H; with_reducible exact H2_) | with_reducible exact H | (rw [hy193]; exact H) | exact H
  have Ny193 := Aside0.mk hy193
  clear hy193
  replace H := Option.bind_eq_some_iff.mp H
  obtain ⟨t196, A30, H⟩ := H
  replace H : ((utf_Enc16.f k (([a0] : List Int))).bind fun t200 => ((utf_Good.f a0).bind fun t203 => (if t203 = true then (if a0 < 65536 then (hornbooklaw02_UtfSizes.j0 k a0 t192 t196 t200 3) else (hornbooklaw02_UtfSizes.j0 k a0 t192 t196 t200 4)) else (if t192 = true then (if t196.toList = ([239, 191, 189] : List UInt8) then (if (t200.length : Int) = 1 then (if 0 < (t200.length : Int) then (some ((rd t200 0) == 65533)) else (none)) else (none)) else (none)) else (none))))) = some r := H
  have A3 := Aside0.mk A30
  clear A30
  obtain ⟨y197, hy197⟩ : ∃ y_ : List Int, y_ = (([a0] : List Int)) := ⟨_, rfl⟩
  replace H : ((utf_Enc16.f k y197).bind fun t200 => ((utf_Good.f a0).bind fun t203 => (if t203 = true then (if a0 < 65536 then (hornbooklaw02_UtfSizes.j0 k a0 t192 t196 t200 3) else (hornbooklaw02_UtfSizes.j0 k a0 t192 t196 t200 4)) else (if t192 = true then (if t196.toList = ([239, 191, 189] : List UInt8) then (if (t200.length : Int) = 1 then (if 0 < (t200.length : Int) then (some ((rd t200 0) == 65533)) else (none)) else (none)) else (none)) else (none))))) = some r := by first | (rw [hy197]; with_reducible exact H) | (have H2_ := (Option.bind_some _ _).symm.trans H; rw [hy197]; with_reducible exact H2_) | (have H2_ := (Option.bind_some _ _).symm.trans H; with_reducible exact H2_) | with_reducible exact H | (rw [hy197]; exact H) | exact H
  have Ny197 := Aside0.mk hy197
  clear hy197
  replace H := Option.bind_eq_some_iff.mp H
  obtain ⟨t200, A40, H⟩ := H
  replace H : ((utf_Good.f a0).bind fun t203 => (if t203 = true then (if a0 < 65536 then (hornbooklaw02_UtfSizes.j0 k a0 t192 t196 t200 3) else (hornbooklaw02_UtfSizes.j0 k a0 t192 t196 t200 4)) else (if t192 = true then (if t196.toList = ([239, 191, 189] : List UInt8) then (if (t200.length : Int) = 1 then (if 0 < (t200.length : Int) then (some ((rd t200 0) == 65533)) else (none)) else (none)) else (none)) else (none)))) = some r := H
  have A4 := Aside0.mk A40
  clear A40
  replace H := Option.bind_eq_some_iff.mp H
  obtain ⟨t203, A50, H⟩ := H
  replace H : (if t203 = true then (if a0 < 65536 then (hornbooklaw02_UtfSizes.j0 k a0 t192 t196 t200 3) else (hornbooklaw02_UtfSizes.j0 k a0 t192 t196 t200 4)) else (if t192 = true then (if t196.toList = ([239, 191, 189] : List UInt8) then (if (t200.length : Int) = 1 then (if 0 < (t200.length : Int) then (some ((rd t200 0) == 65533)) else (none)) else (none)) else (none)) else (none))) = some r := H
  have A5 := Aside0.mk A50
  clear A50
  by_cases c6 : t203 = true
  · subst c6
    have H1 : (if a0 < 65536 then (hornbooklaw02_UtfSizes.j0 k a0 t192 t196 t200 3) else (hornbooklaw02_UtfSizes.j0 k a0 t192 t196 t200 4)) = some r := by rw [if_pos rfl] at H; exact H
    clear H
    have H := H1
    clear H1
    have HC7 := Aside0.mk H
    clear H
    go_enter Tryd.func4, Tryd.ntmps4
    go_upto_if 36 with (first | ((with_reducible refine gate_callee (f := 9) rfl ?_); refine goesL_ (some 9) rfl rfl Tryd.func9 (by kernel_rfl) rfl #[] rfl (by (try simp only [List.map_toArray, List.map_cons, List.map_nil]); first | done | rfl | (simp only [List.length_drop, List.length_take]; rfl)) ?_; (with_reducible refine (hornbooklaw02_awake.calls k  t192 _ A2.out).mono ?_); rintro e w8 ⟨rfl, hb⟩; refine ⟨_, rfl, ?_⟩; have n0_ := Aside0.mk (below_step (by repeat (first | (with_reducible first | exact HB.out | apply below_alloc | apply pw_below_drewN | apply below_drew1) | exact HB.out)) hb); clear HB; have HB := n0_; clear n0_; (try clear hb); (try clear hb2); (try clear hk); (try clear hi)) | ((with_reducible refine gate_dst (N := 11) rfl ?_); (try (refine gate_guard (by rfl) ?_; dsimp only)); refine Kd.R_lit (Kd.int .i64) _ 3 ?hg (N := 11) ?hd (xs := ([a0] : List Int)) (inner := [.int .i64 a0]) (ok := fun _ => True) (okp := fun _ => True) ?hr ?hp (fun _ hk => hk) trivial (Below.refl _ _) (Nat.le_refl _) (by simp) ?_; (case hd => rfl); (case hg => rfl); (case hr => first | (go_simp; done) | (go_simp; rfl)); (case hp => exact (Reps.one (show Kd.M (Kd.int .i64) _ _ _ a0 [.int .i64 a0] from rfl) (Reps.none _ _))); intro v194 w9 ho10 hb hg_ hnew_; clear hg_ hnew_; (first | rw [← Ny193.out] at ho10 | (simp only [Int.reduceToNat] at ho10; rw [← Ny193.out] at ho10)); have n0_ := Aside0.mk (Kd.R_lower ho10 (below_size (by repeat (first | (with_reducible first | exact HB.out | apply below_alloc | apply pw_below_drewN | apply below_drew1) | exact HB.out)))); have n1_ := Aside0.mk (below_step (by repeat (first | (with_reducible first | exact HB.out | apply below_alloc | apply pw_below_drewN | apply below_drew1) | exact HB.out)) hb); clear HB; have HO195 := n0_; have HB := n1_; clear n0_ n1_; clear hb ho10; obtain ⟨Ao11, co11, eo11⟩ := Kd.R_slice HO195.out; subst eo11) | ((with_reducible refine gate_callee (f := 12) rfl ?_); refine goesL_ (some 12) rfl rfl Tryd.func12 (by kernel_rfl) rfl #[.slice Ao11 y193.length co11] rfl (by (try simp only [List.map_toArray, List.map_cons, List.map_nil]); first | done | rfl | (simp only [List.length_drop, List.length_take]; rfl)) ?_; (with_reducible refine (utf_Text.calls _ _ y193 t196 _ ?side1 ?side2 A3.out).mono ?_); (case side1 => repeat (first | exact (Kd.R_reads' HO195.out).2.2 | (with_reducible refine Kd.C_alloc ?_ _) | (with_reducible refine Kd.C_drewN ?_ _) | (with_reducible refine Kd.C_drew ?_))); (case side2 => exact (Kd.R_reads' HO195.out).2.1); rintro e w12 ⟨rfl, hb⟩; refine ⟨_, rfl, ?_⟩; have n0_ := Aside0.mk (Kd.R_below (by (with_reducible repeat (first | apply Kd.R_alloc | apply Kd.R_drewN | apply Kd.R_drew)); exact HO195.out) hb); have n1_ := Aside0.mk (below_step (by repeat (first | (with_reducible first | exact HB.out | apply below_alloc | apply pw_below_drewN | apply below_drew1) | exact HB.out)) hb); clear HO195; clear HB; have HO195 := n0_; have HB := n1_; clear n0_ n1_; (try clear hb); (try clear hb2); (try clear hk); (try clear hi)) | ((with_reducible refine gate_dst (N := 14) rfl ?_); (try (refine gate_guard (by rfl) ?_; dsimp only)); refine Kd.R_lit (Kd.int .i64) _ 3 ?hg (N := 14) ?hd (xs := ([a0] : List Int)) (inner := [.int .i64 a0]) (ok := fun _ => True) (okp := fun _ => True) ?hr ?hp (fun _ hk => hk) trivial (Below.refl _ _) (Nat.le_refl _) (by simp) ?_; (case hd => rfl); (case hg => rfl); (case hr => first | (go_simp; done) | (go_simp; rfl)); (case hp => exact (Reps.one (show Kd.M (Kd.int .i64) _ _ _ a0 [.int .i64 a0] from rfl) (Reps.none _ _))); intro v198 w13 ho14 hb hg_ hnew_; clear hg_ hnew_; (first | rw [← Ny197.out] at ho14 | (simp only [Int.reduceToNat] at ho14; rw [← Ny197.out] at ho14)); have n0_ := Aside0.mk (Kd.R_elder' (by (with_reducible repeat (first | apply Kd.R_alloc | apply Kd.R_drewN | apply Kd.R_drew)); exact HO195.out) (Kd.R_base ho14) hb); have n1_ := Aside0.mk (Kd.R_lower (Kd.R_new' ho14 (Kd.R_lt (by (with_reducible repeat (first | apply Kd.R_alloc | apply Kd.R_drewN | apply Kd.R_drew)); exact HO195.out))) (below_size (by repeat (first | (with_reducible first | exact HB.out | apply below_alloc | apply pw_below_drewN | apply below_drew1) | exact HB.out)))); have n2_ := Aside0.mk (below_step (by repeat (first | (with_reducible first | exact HB.out | apply below_alloc | apply pw_below_drewN | apply below_drew1) | exact HB.out)) hb); clear HO195; clear HB; have HO195 := n0_; have HO199 := n1_; have HB := n2_; clear n0_ n1_ n2_; clear hb ho14; obtain ⟨Ao15, co15, eo15⟩ := Kd.R_slice HO199.out; subst eo15) | ((with_reducible refine gate_callee (f := 10) rfl ?_); refine goesL_ (some 15) rfl rfl Tryd.func10 (by kernel_rfl) rfl #[.slice Ao15 y197.length co15] rfl (by (try simp only [List.map_toArray, List.map_cons, List.map_nil]); first | done | rfl | (simp only [List.length_drop, List.length_take]; rfl)) ?_; (with_reducible refine (utf_Enc16.calls k _ _ y197 t200 _ ?side1 ?side2 A4.out).mono ?_); (case side1 => repeat (first | exact (Kd.R_reads' HO199.out).2.2 | (with_reducible refine Kd.C_alloc ?_ _) | (with_reducible refine Kd.C_drewN ?_ _) | (with_reducible refine Kd.C_drew ?_))); (case side2 => exact (Kd.R_reads' HO199.out).2.1); rintro e w16 ⟨v201, rfl, ho0, hb⟩; refine ⟨_, rfl, ?_⟩; have n0_ := Aside0.mk (Kd.R_elder' (by (with_reducible repeat (first | apply Kd.R_alloc | apply Kd.R_drewN | apply Kd.R_drew)); exact HO195.out) (Kd.R_base ho0) hb); have n1_ := Aside0.mk (Kd.R_elder' (by (with_reducible repeat (first | apply Kd.R_alloc | apply Kd.R_drewN | apply Kd.R_drew)); exact HO199.out) (Kd.R_base ho0) hb); have n2_ := Aside0.mk (Kd.R_lower (Kd.R_new' (Kd.R_new' ho0 (Kd.R_lt (by (with_reducible repeat (first | apply Kd.R_alloc | apply Kd.R_drewN | apply Kd.R_drew)); exact HO195.out))) (Kd.R_lt (by (with_reducible repeat (first | apply Kd.R_alloc | apply Kd.R_drewN | apply Kd.R_drew)); exact HO199.out))) (below_size (by repeat (first | (with_reducible first | exact HB.out | apply below_alloc | apply pw_below_drewN | apply below_drew1) | exact HB.out)))); have n3_ := Aside0.mk (below_step (by repeat (first | (with_reducible first | exact HB.out | apply below_alloc | apply pw_below_drewN | apply below_drew1) | exact HB.out)) hb); clear HO195; clear HO199; clear HB; have HO195 := n0_; have HO199 := n1_; have HO202 := n2_; have HB := n3_; clear n0_ n1_ n2_ n3_; (try clear hb); (try clear hb2); (try clear hk); (try clear hi); (try clear ho0)) | ((with_reducible refine gate_callee (f := 14) rfl ?_); refine goesL_ (some 17) rfl rfl Tryd.func14 (by kernel_rfl) rfl #[.int .i64 a0] rfl (by (try simp only [List.map_toArray, List.map_cons, List.map_nil]); first | done | rfl | (simp only [List.length_drop, List.length_take]; rfl)) ?_; (with_reducible refine (utf_Good.calls a0 true _ A5.out).mono ?_); rintro e w' ⟨rfl, ⟨nd, rfl⟩⟩; refine ⟨_, rfl, ?_⟩))
    (try simp only [Act.put, List.setIfInBounds_toArray, List.set_cons_zero, List.set_cons_succ])
    go_cut [6] (fun v6 wc => ∃ (kq : Nat) (x6_6 : Int), v6 = .int .i64 x6_6 ∧ Aside0 (hornbooklaw02_UtfSizes.j0 kq a0 t192 t196 t200 x6_6 = some r) ∧ Aside0 (kq ≤ k) ∧ Aside0 (Kd.R (Kd.int .i64) 3 wc w.heap.size (fun _ => True) v201 t200) ∧ Aside0 (Below w.heap.size w wc))
    case first =>
      have H := HC7.out
      clear HC7
      by_cases c17 : a0 < 65536
      · rw [if_pos c17] at H
        have c17b0 : decide (a0 < 65536) = true := decide_eq_true c17
        clear c17
        (first | rw [c17b0] | (simp only [i64_w, i32_w]; rw [c17b0]) | skip)
        have H' := Aside0.mk H
        clear H
        go_wp2
        go_meet
        case rel => exact ⟨_, (3), (by first | rfl | (simp; done) | (simp [*]; done)), H', ⟨by first | omega | exact Nat.le_refl _⟩, ⟨by (with_reducible repeat (first | apply Kd.R_alloc | apply Kd.R_drewN | apply Kd.R_drew)); exact Kd.R_mono HO202.out (fun _ hk => trivial)⟩, ⟨by repeat (first | (with_reducible first | exact HB.out | apply below_alloc | apply pw_below_drewN | apply below_drew1) | exact HB.out)⟩⟩
      · rw [if_neg c17] at H
        have c17b0 : decide (a0 < 65536) = false := decide_eq_false c17
        clear c17
        (first | rw [c17b0] | (simp only [i64_w, i32_w]; rw [c17b0]) | skip)
        have H' := Aside0.mk H
        clear H
        go_wp2
        go_meet
        case rel => exact ⟨_, (4), (by first | rfl | (simp; done) | (simp [*]; done)), H', ⟨by first | omega | exact Nat.le_refl _⟩, ⟨by (with_reducible repeat (first | apply Kd.R_alloc | apply Kd.R_drewN | apply Kd.R_drew)); exact Kd.R_mono HO202.out (fun _ hk => trivial)⟩, ⟨by repeat (first | (with_reducible first | exact HB.out | apply below_alloc | apply pw_below_drewN | apply below_drew1) | exact HB.out)⟩⟩
    case rest =>
      clear HC7
      try clear c1
      try clear p2
      try clear c4
      try clear c6
      try clear c9
      try clear c10
      try clear c12
      try clear c14
      try clear c16
      try clear c17
      try clear c17b0
      obtain ⟨kq, x6_6, rfl, HA, HJ6, HO_5, HB⟩ := hcut
      cases kq with
      | zero => exact absurd HA.out (by simp [hornbooklaw02_UtfSizes.j0])
      | succ kj6 =>
        have H := HA.out
        clear HA
        simp only [hornbooklaw02_UtfSizes.j0] at H
        have HC18 := Aside0.mk H
        clear H
        go_upto_if 38 with (fail)
        go_cut [6] (fun v6 wc => ∃ (kq : Nat) (x6_17 : Int), v6 = .int .i64 x6_17 ∧ Aside0 (hornbooklaw02_UtfSizes.j1 kq a0 t192 t196 t200 x6_17 = some r) ∧ Aside0 (kq ≤ kj6) ∧ Aside0 (Kd.R (Kd.int .i64) 3 wc w.heap.size (fun _ => True) v201 t200) ∧ Aside0 (Below w.heap.size w wc))
        case first =>
          have H := HC18.out
          clear HC18
          by_cases c19 : a0 < 2048
          · rw [if_pos c19] at H
            have c19b0 : decide (a0 < 2048) = true := decide_eq_true c19
            clear c19
            (first | rw [c19b0] | (simp only [i64_w, i32_w]; rw [c19b0]) | skip)
            have H' := Aside0.mk H
            clear H
            go_wp2
            go_meet
            case rel => exact ⟨_, (2), (by first | rfl | (simp; done) | (simp [*]; done)), H', ⟨by have := HJ6.out; first | omega | exact Nat.le_refl _⟩, ⟨by (with_reducible repeat (first | apply Kd.R_alloc | apply Kd.R_drewN | apply Kd.R_drew)); exact HO_5.out⟩, ⟨by repeat (first | (with_reducible first | exact HB.out | apply below_alloc | apply pw_below_drewN | apply below_drew1) | exact HB.out)⟩⟩
          · rw [if_neg c19] at H
            have c19b0 : decide (a0 < 2048) = false := decide_eq_false c19
            clear c19
            (first | rw [c19b0] | (simp only [i64_w, i32_w]; rw [c19b0]) | skip)
            have H' := Aside0.mk H
            clear H
            go_wp2
            go_meet
            case rel => exact ⟨_, (x6_6), (by first | rfl | (simp; done) | (simp [*]; done)), H', ⟨by have := HJ6.out; first | omega | exact Nat.le_refl _⟩, ⟨by (with_reducible repeat (first | apply Kd.R_alloc | apply Kd.R_drewN | apply Kd.R_drew)); exact HO_5.out⟩, ⟨by repeat (first | (with_reducible first | exact HB.out | apply below_alloc | apply pw_below_drewN | apply below_drew1) | exact HB.out)⟩⟩
        case rest =>
          clear HC18
          try clear c1
          try clear p2
          try clear c4
          try clear c6
          try clear c9
          try clear c10
          try clear c12
          try clear c14
          try clear c16
          try clear c17
          try clear c17b0
          try clear c19
          try clear c19b0
          try clear p2
          obtain ⟨kq, x6_17, rfl, HA, HJ17, HO_5, HB⟩ := hcut
          cases kq with
          | zero => exact absurd HA.out (by simp [hornbooklaw02_UtfSizes.j1])
          | succ kj17 =>
            have H := HA.out
            clear HA
            simp only [hornbooklaw02_UtfSizes.j1] at H
            by_cases c20 : a0 < 128
            · rw [if_pos c20] at H
              have c20b0 : decide (a0 < 128) = true := decide_eq_true c20
              clear c20
              by_cases c21 : (t196.size : Int) = 1
              · rw [if_pos c21] at H
                have c21b0 : ((t196.size : Int) == 1) = true := beq_iff_eq.mpr c21
                have c21b1 : ((t196.size : Int) != 1) = false := bne_eq_false_iff_eq.mpr c21
                clear c21
                by_cases c22 : 0 < (t196.size : Int)
                · rw [if_pos c22] at H
                  have c22b0 : decide (0 < (t196.size : Int)) = true := decide_eq_true c22
                  have c22b1 : decide (0 < t196.size) = true := decide_eq_true (by omega)
                  clear c22
                  by_cases c24 : 1 = 1
                  · (first | rw [if_pos c24] at H | rw [if_pos trivial] at H)
                    have c24b0 : (1 == 1) = true := beq_iff_eq.mpr c24
                    have c24b1 : (1 != 1) = false := bne_eq_false_iff_eq.mpr c24
                    clear c24
                    by_cases c25 : (bt t196 0) < 128
                    · rw [if_pos c25] at H
                      have c25b0 : decide ((bt t196 0) < 128) = true := decide_eq_true c25
                      clear c25
                      by_cases c26 : t192 = true
                      · subst c26
                        have H1 : (if (((t200.length : Int) == 1) == (decide (a0 < 65536))) = true then (if 1 ≤ (t196.size : Int) then ((utf_Runes.f (t196.extract 1 t196.size)).bind fun t205 => (some ((t205.length : Int) == (1 - 1)))) else (none)) else (none)) = some r := by rw [if_pos rfl] at H; exact H
                        clear H
                        have H := H1
                        clear H1
                        by_cases c27 : (((t200.length : Int) == 1) == (decide (a0 < 65536))) = true
                        · rw [if_pos c27] at H
                          have c27b0 : (((t200.length : Int) == 1) == (decide (a0 < 65536))) = true := c27
                          (try (have c27b1 : decide (((t200.length : Int) == 1) = (decide (a0 < 65536))) = true := by simpa using c27))
                          (try (have c27b2 : (((t200.length : Int) == 1) == (decide (a0 < 65536))) = true := by simpa using c27))
                          clear c27
                          by_cases c28 : 1 ≤ (t196.size : Int)
                          · rw [if_pos c28] at H
                            have c28b0 := eq_true c28
                            have c28b1 : decide (1 ≤ (t196.size : Int)) = true := decide_eq_true c28
                            clear c28
                            replace H := Option.bind_eq_some_iff.mp H
                            obtain ⟨t205, A290, H⟩ := H
                            replace H : (some ((t205.length : Int) == (1 - 1))) = some r := H
                            have A29 := Aside0.mk A290
                            clear A290
                            obtain rfl := Option.some.inj H
                            have p23 : 0 ≤ (0 : Int) := (by omega)
                            have q23 : 0 < t196.size := (by have : (0 : Int) < (t196.size : Int) := of_decide_eq_true (by first | (with_reducible assumption) | assumption); omega)
                            have hx23 : ∀ h : 0 < t196.size, ((t196[0]'h).toNat : Int) = bt t196 0 := bt_at t196 0
                            clear p23
                            have qi23 : (0 < (t196.size : Int)) = True := eq_true (of_decide_eq_true (by first | (with_reducible assumption) | assumption))
                            replace q23 := eq_true q23
                            obtain ⟨Ao30, co30, eo30⟩ := Kd.R_slice HO_5.out
                            subst eo30
                            go_wp2_with (first | (go_at_call 15; (with_reducible refine (utf_Runes.calls (t196.extract 1 t196.size) t205 _ A29.out).mono ?_); rintro e w31 ⟨v206, rfl, ho0, hb⟩; have n0_ := Aside0.mk (Kd.R_elder' (by (with_reducible repeat (first | apply Kd.R_alloc | apply Kd.R_drewN | apply Kd.R_drew)); exact HO_5.out) (Kd.R_base ho0) hb); have n1_ := Aside0.mk (Kd.R_lower (Kd.R_new' ho0 (Kd.R_lt (by (with_reducible repeat (first | apply Kd.R_alloc | apply Kd.R_drewN | apply Kd.R_drew)); exact HO_5.out))) (below_size (by repeat (first | (with_reducible first | exact HB.out | apply below_alloc | apply pw_below_drewN | apply below_drew1) | exact HB.out)))); have n2_ := Aside0.mk (below_step (by repeat (first | (with_reducible first | exact HB.out | apply below_alloc | apply pw_below_drewN | apply below_drew1) | exact HB.out)) hb); clear HO_5; clear HB; have HO_5 := n0_; have HO207 := n1_; have HB := n2_; clear n0_ n1_ n2_; (try clear hb); (try clear hb2); (try clear hk); (try clear hi); (try clear ho0); obtain ⟨Ao32, co32, eo32⟩ := Kd.R_slice HO207.out; subst eo32))
                            go_ret
                            exact ⟨by first | rfl | (simp [errW_none, errW_some] <;> rfl) | (simp [*, errW_none, errW_some] <;> rfl), by repeat (first | (with_reducible first | exact HB.out | apply below_alloc | apply pw_below_drewN | apply below_drew1) | exact HB.out)⟩
                          · rw [if_neg c28] at H
                            exact absurd H (by simp)
                        · rw [if_neg c27] at H
                          exact absurd H (by simp)
                      · rw [if_neg c26] at H
                        exact absurd H (by simp)
                    · rw [if_neg c25] at H
                      have c25b0 : decide ((bt t196 0) < 128) = false := decide_eq_false c25
                      clear c25
                      by_cases c34 : 1 = 2
                      · exact absurd ((beq_iff_eq.mp c24b0).symm.trans c34) (by decide)
                      · (first | rw [if_neg c34] at H | rw [if_neg (fun h_ => h_)] at H)
                        have c34b0 : (1 == 2) = false := beq_eq_false_iff_ne.mpr c34
                        have c34b1 : (1 != 2) = true := bne_iff_ne.mpr c34
                        by_cases c145 : 1 = 3
                        · exact absurd ((beq_iff_eq.mp c24b0).symm.trans c145) (by decide)
                        · (first | rw [if_neg c145] at H | rw [if_neg (fun h_ => h_)] at H)
                          have c145b0 : (1 == 3) = false := beq_eq_false_iff_ne.mpr c145
                          have c145b1 : (1 != 3) = true := bne_iff_ne.mpr c145
                          by_cases c182 : 1 = 4
                          · exact absurd ((beq_iff_eq.mp c24b0).symm.trans c182) (by decide)
                          · (first | rw [if_neg c182] at H | rw [if_neg (fun h_ => h_)] at H)
                            have c182b0 : (1 == 4) = false := beq_eq_false_iff_ne.mpr c182
                            have c182b1 : (1 != 4) = true := bne_iff_ne.mpr c182
                            by_cases c194 : t192 = true
                            · rw [if_pos c194] at H
                              exact absurd H (by simp)
                            · rw [if_neg c194] at H
                              exact absurd H (by simp)
                  · exact absurd rfl c24
                · rw [if_neg c22] at H
                  exact absurd H (by simp)
              · rw [if_neg c21] at H
                first
                | exact absurd H (by simp)
                | have c21b0 : ((t196.size : Int) == 1) = false := beq_eq_false_iff_ne.mpr c21
                  have c21b1 : ((t196.size : Int) != 1) = true := bne_iff_ne.mpr c21
                  obtain rfl := Option.some.inj H
                  go_wp2
                  go_ret
                  exact ⟨by first | rfl | (simp [errW_none, errW_some] <;> rfl) | (simp [*, errW_none, errW_some] <;> rfl), by repeat (first | (with_reducible first | exact HB.out | apply below_alloc | apply pw_below_drewN | apply below_drew1) | exact HB.out)⟩
            · rw [if_neg c20] at H
              have c20b0 : decide (a0 < 128) = false := decide_eq_false c20
              clear c20
              by_cases c356 : (t196.size : Int) = x6_17
              · rw [if_pos c356] at H
                have c356b0 : ((t196.size : Int) == x6_17) = true := beq_iff_eq.mpr c356
                have c356b1 : ((t196.size : Int) != x6_17) = false := bne_eq_false_iff_eq.mpr c356
                clear c356
                by_cases c357 : 0 < (t196.size : Int)
                · rw [if_pos c357] at H
                  have c357b0 : decide (0 < (t196.size : Int)) = true := decide_eq_true c357
                  have c357b1 : decide (0 < t196.size) = true := decide_eq_true (by omega)
                  clear c357
                  by_cases c359 : x6_17 = 1
                  · rw [if_pos c359] at H
                    have c359b0 : (x6_17 == 1) = true := beq_iff_eq.mpr c359
                    have c359b1 : (x6_17 != 1) = false := bne_eq_false_iff_eq.mpr c359
                    clear c359
                    by_cases c360 : (bt t196 0) < 128
                    · rw [if_pos c360] at H
                      have c360b0 : decide ((bt t196 0) < 128) = true := decide_eq_true c360
                      clear c360
                      by_cases c361 : t192 = true
                      · subst c361
                        have H1 : (if (((t200.length : Int) == 1) == (decide (a0 < 65536))) = true then (if 1 ≤ (t196.size : Int) then ((utf_Runes.f (t196.extract 1 t196.size)).bind fun t286 => (some ((t286.length : Int) == (wrap64 (x6_17 - 1))))) else (none)) else (none)) = some r := by rw [if_pos rfl] at H; exact H
                        clear H
                        have H := H1
                        clear H1
                        by_cases c362 : (((t200.length : Int) == 1) == (decide (a0 < 65536))) = true
                        · rw [if_pos c362] at H
                          have c362b0 : (((t200.length : Int) == 1) == (decide (a0 < 65536))) = true := c362
                          (try (have c362b1 : decide (((t200.length : Int) == 1) = (decide (a0 < 65536))) = true := by simpa using c362))
                          (try (have c362b2 : (((t200.length : Int) == 1) == (decide (a0 < 65536))) = true := by simpa using c362))
                          clear c362
                          by_cases c363 : 1 ≤ (t196.size : Int)
                          · rw [if_pos c363] at H
                            have c363b0 := eq_true c363
                            have c363b1 : decide (1 ≤ (t196.size : Int)) = true := decide_eq_true c363
                            clear c363
                            replace H := Option.bind_eq_some_iff.mp H
                            obtain ⟨t286, A3640, H⟩ := H
                            replace H : (some ((t286.length : Int) == (wrap64 (x6_17 - 1)))) = some r := H
                            have A364 := Aside0.mk A3640
                            clear A3640
                            obtain rfl := Option.some.inj H
                            have p358 : 0 ≤ (0 : Int) := (by omega)
                            have q358 : 0 < t196.size := (by have : (0 : Int) < (t196.size : Int) := of_decide_eq_true (by first | (with_reducible assumption) | assumption); omega)
                            have hx358 : ∀ h : 0 < t196.size, ((t196[0]'h).toNat : Int) = bt t196 0 := bt_at t196 0
                            clear p358
                            have qi358 : (0 < (t196.size : Int)) = True := eq_true (of_decide_eq_true (by first | (with_reducible assumption) | assumption))
                            replace q358 := eq_true q358
                            obtain ⟨Ao365, co365, eo365⟩ := Kd.R_slice HO_5.out
                            subst eo365
                            go_wp2_with (first | (go_at_call 15; (with_reducible refine (utf_Runes.calls (t196.extract 1 t196.size) t286 _ A364.out).mono ?_); rintro e w366 ⟨v287, rfl, ho0, hb⟩; have n0_ := Aside0.mk (Kd.R_elder' (by (with_reducible repeat (first | apply Kd.R_alloc | apply Kd.R_drewN | apply Kd.R_drew)); exact HO_5.out) (Kd.R_base ho0) hb); have n1_ := Aside0.mk (Kd.R_lower (Kd.R_new' ho0 (Kd.R_lt (by (with_reducible repeat (first | apply Kd.R_alloc | apply Kd.R_drewN | apply Kd.R_drew)); exact HO_5.out))) (below_size (by repeat (first | (with_reducible first | exact HB.out | apply below_alloc | apply pw_below_drewN | apply below_drew1) | exact HB.out)))); have n2_ := Aside0.mk (below_step (by repeat (first | (with_reducible first | exact HB.out | apply below_alloc | apply pw_below_drewN | apply below_drew1) | exact HB.out)) hb); clear HO_5; clear HB; have HO_5 := n0_; have HO288 := n1_; have HB := n2_; clear n0_ n1_ n2_; (try clear hb); (try clear hb2); (try clear hk); (try clear hi); (try clear ho0); obtain ⟨Ao367, co367, eo367⟩ := Kd.R_slice HO288.out; subst eo367))
                            go_ret
                            exact ⟨by first | rfl | (simp [errW_none, errW_some] <;> rfl) | (simp [*, errW_none, errW_some] <;> rfl), by repeat (first | (with_reducible first | exact HB.out | apply below_alloc | apply pw_below_drewN | apply below_drew1) | exact HB.out)⟩
                          · rw [if_neg c363] at H
                            exact absurd H (by simp)
                        · rw [if_neg c362] at H
                          exact absurd H (by simp)
                      · rw [if_neg c361] at H
                        exact absurd H (by simp)
                    · rw [if_neg c360] at H
                      have c360b0 : decide ((bt t196 0) < 128) = false := decide_eq_false c360
                      clear c360
                      by_cases c369 : x6_17 = 2
                      · exact absurd ((beq_iff_eq.mp c359b0).symm.trans c369) (by decide)
                      · rw [if_neg c369] at H
                        have c369b0 : (x6_17 == 2) = false := beq_eq_false_iff_ne.mpr c369
                        have c369b1 : (x6_17 != 2) = true := bne_iff_ne.mpr c369
                        by_cases c480 : x6_17 = 3
                        · exact absurd ((beq_iff_eq.mp c359b0).symm.trans c480) (by decide)
                        · rw [if_neg c480] at H
                          have c480b0 : (x6_17 == 3) = false := beq_eq_false_iff_ne.mpr c480
                          have c480b1 : (x6_17 != 3) = true := bne_iff_ne.mpr c480
                          by_cases c517 : x6_17 = 4
                          · exact absurd ((beq_iff_eq.mp c359b0).symm.trans c517) (by decide)
                          · rw [if_neg c517] at H
                            have c517b0 : (x6_17 == 4) = false := beq_eq_false_iff_ne.mpr c517
                            have c517b1 : (x6_17 != 4) = true := bne_iff_ne.mpr c517
                            by_cases c529 : t192 = true
                            · rw [if_pos c529] at H
                              exact absurd H (by simp)
                            · rw [if_neg c529] at H
                              exact absurd H (by simp)
                  · rw [if_neg c359] at H
                    have c359b0 : (x6_17 == 1) = false := beq_eq_false_iff_ne.mpr c359
                    have c359b1 : (x6_17 != 1) = true := bne_iff_ne.mpr c359
                    by_cases c530 : x6_17 = 2
                    · rw [if_pos c530] at H
                      have c530b0 : (x6_17 == 2) = true := beq_iff_eq.mpr c530
                      have c530b1 : (x6_17 != 2) = false := bne_eq_false_iff_eq.mpr c530
                      clear c530
                      by_cases c531 : (bt t196 0) ≥ 194
                      · rw [if_pos c531] at H
                        have c531b0 : decide (194 ≤ (bt t196 0)) = true := decide_eq_true c531
                        clear c531
                        by_cases c532 : (bt t196 0) < 224
                        · rw [if_pos c532] at H
                          have c532b0 : decide ((bt t196 0) < 224) = true := decide_eq_true c532
                          clear c532
                          by_cases c533 : t192 = true
                          · subst c533
                            have H1 : (if (((t200.length : Int) == 1) == (decide (a0 < 65536))) = true then (if 1 ≤ (t196.size : Int) then ((utf_Runes.f (t196.extract 1 t196.size)).bind fun t328 => (some ((t328.length : Int) == (wrap64 (x6_17 - 1))))) else (none)) else (none)) = some r := by rw [if_pos rfl] at H; exact H
                            clear H
                            have H := H1
                            clear H1
                            by_cases c534 : (((t200.length : Int) == 1) == (decide (a0 < 65536))) = true
                            · rw [if_pos c534] at H
                              have c534b0 : (((t200.length : Int) == 1) == (decide (a0 < 65536))) = true := c534
                              (try (have c534b1 : decide (((t200.length : Int) == 1) = (decide (a0 < 65536))) = true := by simpa using c534))
                              (try (have c534b2 : (((t200.length : Int) == 1) == (decide (a0 < 65536))) = true := by simpa using c534))
                              clear c534
                              by_cases c535 : 1 ≤ (t196.size : Int)
                              · rw [if_pos c535] at H
                                have c535b0 := eq_true c535
                                have c535b1 : decide (1 ≤ (t196.size : Int)) = true := decide_eq_true c535
                                clear c535
                                replace H := Option.bind_eq_some_iff.mp H
                                obtain ⟨t328, A5360, H⟩ := H
                                replace H : (some ((t328.length : Int) == (wrap64 (x6_17 - 1)))) = some r := H
                                have A536 := Aside0.mk A5360
                                clear A5360
                                obtain rfl := Option.some.inj H
                                have p358 : 0 ≤ (0 : Int) := (by omega)
                                have q358 : 0 < t196.size := (by have : (0 : Int) < (t196.size : Int) := of_decide_eq_true (by first | (with_reducible assumption) | assumption); omega)
                                have hx358 : ∀ h : 0 < t196.size, ((t196[0]'h).toNat : Int) = bt t196 0 := bt_at t196 0
                                clear p358
                                have qi358 : (0 < (t196.size : Int)) = True := eq_true (of_decide_eq_true (by first | (with_reducible assumption) | assumption))
                                replace q358 := eq_true q358
                                obtain ⟨Ao537, co537, eo537⟩ := Kd.R_slice HO_5.out
                                subst eo537
                                go_wp2_with (first | (go_at_call 15; (with_reducible refine (utf_Runes.calls (t196.extract 1 t196.size) t328 _ A536.out).mono ?_); rintro e w538 ⟨v329, rfl, ho0, hb⟩; have n0_ := Aside0.mk (Kd.R_elder' (by (with_reducible repeat (first | apply Kd.R_alloc | apply Kd.R_drewN | apply Kd.R_drew)); exact HO_5.out) (Kd.R_base ho0) hb); have n1_ := Aside0.mk (Kd.R_lower (Kd.R_new' ho0 (Kd.R_lt (by (with_reducible repeat (first | apply Kd.R_alloc | apply Kd.R_drewN | apply Kd.R_drew)); exact HO_5.out))) (below_size (by repeat (first | (with_reducible first | exact HB.out | apply below_alloc | apply pw_below_drewN | apply below_drew1) | exact HB.out)))); have n2_ := Aside0.mk (below_step (by repeat (first | (with_reducible first | exact HB.out | apply below_alloc | apply pw_below_drewN | apply below_drew1) | exact HB.out)) hb); clear HO_5; clear HB; have HO_5 := n0_; have HO330 := n1_; have HB := n2_; clear n0_ n1_ n2_; (try clear hb); (try clear hb2); (try clear hk); (try clear hi); (try clear ho0); obtain ⟨Ao539, co539, eo539⟩ := Kd.R_slice HO330.out; subst eo539))
                                go_ret
                                exact ⟨by first | rfl | (simp [errW_none, errW_some] <;> rfl) | (simp [*, errW_none, errW_some] <;> rfl), by repeat (first | (with_reducible first | exact HB.out | apply below_alloc | apply pw_below_drewN | apply below_drew1) | exact HB.out)⟩
                              · rw [if_neg c535] at H
                                exact absurd H (by simp)
                            · rw [if_neg c534] at H
                              exact absurd H (by simp)
                          · rw [if_neg c533] at H
                            exact absurd H (by simp)
                        · rw [if_neg c532] at H
                          have c532b0 : decide ((bt t196 0) < 224) = false := decide_eq_false c532
                          clear c532
                          by_cases c541 : x6_17 = 3
                          · exact absurd ((beq_iff_eq.mp c530b0).symm.trans c541) (by decide)
                          · rw [if_neg c541] at H
                            have c541b0 : (x6_17 == 3) = false := beq_eq_false_iff_ne.mpr c541
                            have c541b1 : (x6_17 != 3) = true := bne_iff_ne.mpr c541
                            by_cases c578 : x6_17 = 4
                            · exact absurd ((beq_iff_eq.mp c530b0).symm.trans c578) (by decide)
                            · rw [if_neg c578] at H
                              have c578b0 : (x6_17 == 4) = false := beq_eq_false_iff_ne.mpr c578
                              have c578b1 : (x6_17 != 4) = true := bne_iff_ne.mpr c578
                              by_cases c590 : t192 = true
                              · rw [if_pos c590] at H
                                exact absurd H (by simp)
                              · rw [if_neg c590] at H
                                exact absurd H (by simp)
                      · rw [if_neg c531] at H
                        have c531b0 : decide (194 ≤ (bt t196 0)) = false := decide_eq_false c531
                        clear c531
                        by_cases c591 : x6_17 = 3
                        · exact absurd ((beq_iff_eq.mp c530b0).symm.trans c591) (by decide)
                        · rw [if_neg c591] at H
                          have c591b0 : (x6_17 == 3) = false := beq_eq_false_iff_ne.mpr c591
                          have c591b1 : (x6_17 != 3) = true := bne_iff_ne.mpr c591
                          by_cases c628 : x6_17 = 4
                          · exact absurd ((beq_iff_eq.mp c530b0).symm.trans c628) (by decide)
                          · rw [if_neg c628] at H
                            have c628b0 : (x6_17 == 4) = false := beq_eq_false_iff_ne.mpr c628
                            have c628b1 : (x6_17 != 4) = true := bne_iff_ne.mpr c628
                            by_cases c640 : t192 = true
                            · rw [if_pos c640] at H
                              exact absurd H (by simp)
                            · rw [if_neg c640] at H
                              exact absurd H (by simp)
                    · rw [if_neg c530] at H
                      have c530b0 : (x6_17 == 2) = false := beq_eq_false_iff_ne.mpr c530
                      have c530b1 : (x6_17 != 2) = true := bne_iff_ne.mpr c530
                      by_cases c641 : x6_17 = 3
                      · rw [if_pos c641] at H
                        have c641b0 : (x6_17 == 3) = true := beq_iff_eq.mpr c641
                        have c641b1 : (x6_17 != 3) = false := bne_eq_false_iff_eq.mpr c641
                        clear c641
                        by_cases c642 : (bt t196 0) ≥ 224
                        · rw [if_pos c642] at H
                          have c642b0 : decide (224 ≤ (bt t196 0)) = true := decide_eq_true c642
                          clear c642
                          by_cases c643 : (bt t196 0) < 240
                          · rw [if_pos c643] at H
                            have c643b0 : decide ((bt t196 0) < 240) = true := decide_eq_true c643
                            clear c643
                            by_cases c644 : t192 = true
                            · subst c644
                              have H1 : (if (((t200.length : Int) == 1) == (decide (a0 < 65536))) = true then (if 1 ≤ (t196.size : Int) then ((utf_Runes.f (t196.extract 1 t196.size)).bind fun t355 => (some ((t355.length : Int) == (wrap64 (x6_17 - 1))))) else (none)) else (none)) = some r := by rw [if_pos rfl] at H; exact H
                              clear H
                              have H := H1
                              clear H1
                              by_cases c645 : (((t200.length : Int) == 1) == (decide (a0 < 65536))) = true
                              · rw [if_pos c645] at H
                                have c645b0 : (((t200.length : Int) == 1) == (decide (a0 < 65536))) = true := c645
                                (try (have c645b1 : decide (((t200.length : Int) == 1) = (decide (a0 < 65536))) = true := by simpa using c645))
                                (try (have c645b2 : (((t200.length : Int) == 1) == (decide (a0 < 65536))) = true := by simpa using c645))
                                clear c645
                                by_cases c646 : 1 ≤ (t196.size : Int)
                                · rw [if_pos c646] at H
                                  have c646b0 := eq_true c646
                                  have c646b1 : decide (1 ≤ (t196.size : Int)) = true := decide_eq_true c646
                                  clear c646
                                  replace H := Option.bind_eq_some_iff.mp H
                                  obtain ⟨t355, A6470, H⟩ := H
                                  replace H : (some ((t355.length : Int) == (wrap64 (x6_17 - 1)))) = some r := H
                                  have A647 := Aside0.mk A6470
                                  clear A6470
                                  obtain rfl := Option.some.inj H
                                  have p358 : 0 ≤ (0 : Int) := (by omega)
                                  have q358 : 0 < t196.size := (by have : (0 : Int) < (t196.size : Int) := of_decide_eq_true (by first | (with_reducible assumption) | assumption); omega)
                                  have hx358 : ∀ h : 0 < t196.size, ((t196[0]'h).toNat : Int) = bt t196 0 := bt_at t196 0
                                  clear p358
                                  have qi358 : (0 < (t196.size : Int)) = True := eq_true (of_decide_eq_true (by first | (with_reducible assumption) | assumption))
                                  replace q358 := eq_true q358
                                  obtain ⟨Ao648, co648, eo648⟩ := Kd.R_slice HO_5.out
                                  subst eo648
                                  go_wp2_with (first | (go_at_call 15; (with_reducible refine (utf_Runes.calls (t196.extract 1 t196.size) t355 _ A647.out).mono ?_); rintro e w649 ⟨v356, rfl, ho0, hb⟩; have n0_ := Aside0.mk (Kd.R_elder' (by (with_reducible repeat (first | apply Kd.R_alloc | apply Kd.R_drewN | apply Kd.R_drew)); exact HO_5.out) (Kd.R_base ho0) hb); have n1_ := Aside0.mk (Kd.R_lower (Kd.R_new' ho0 (Kd.R_lt (by (with_reducible repeat (first | apply Kd.R_alloc | apply Kd.R_drewN | apply Kd.R_drew)); exact HO_5.out))) (below_size (by repeat (first | (with_reducible first | exact HB.out | apply below_alloc | apply pw_below_drewN | apply below_drew1) | exact HB.out)))); have n2_ := Aside0.mk (below_step (by repeat (first | (with_reducible first | exact HB.out | apply below_alloc | apply pw_below_drewN | apply below_drew1) | exact HB.out)) hb); clear HO_5; clear HB; have HO_5 := n0_; have HO357 := n1_; have HB := n2_; clear n0_ n1_ n2_; (try clear hb); (try clear hb2); (try clear hk); (try clear hi); (try clear ho0); obtain ⟨Ao650, co650, eo650⟩ := Kd.R_slice HO357.out; subst eo650))
                                  go_ret
                                  exact ⟨by first | rfl | (simp [errW_none, errW_some] <;> rfl) | (simp [*, errW_none, errW_some] <;> rfl), by repeat (first | (with_reducible first | exact HB.out | apply below_alloc | apply pw_below_drewN | apply below_drew1) | exact HB.out)⟩
                                · rw [if_neg c646] at H
                                  exact absurd H (by simp)
                              · rw [if_neg c645] at H
                                exact absurd H (by simp)
                            · rw [if_neg c644] at H
                              exact absurd H (by simp)
                          · rw [if_neg c643] at H
                            have c643b0 : decide ((bt t196 0) < 240) = false := decide_eq_false c643
                            clear c643
                            by_cases c652 : x6_17 = 4
                            · exact absurd ((beq_iff_eq.mp c641b0).symm.trans c652) (by decide)
                            · rw [if_neg c652] at H
                              have c652b0 : (x6_17 == 4) = false := beq_eq_false_iff_ne.mpr c652
                              have c652b1 : (x6_17 != 4) = true := bne_iff_ne.mpr c652
                              by_cases c664 : t192 = true
                              · rw [if_pos c664] at H
                                exact absurd H (by simp)
                              · rw [if_neg c664] at H
                                exact absurd H (by simp)
                        · rw [if_neg c642] at H
                          have c642b0 : decide (224 ≤ (bt t196 0)) = false := decide_eq_false c642
                          clear c642
                          by_cases c665 : x6_17 = 4
                          · exact absurd ((beq_iff_eq.mp c641b0).symm.trans c665) (by decide)
                          · rw [if_neg c665] at H
                            have c665b0 : (x6_17 == 4) = false := beq_eq_false_iff_ne.mpr c665
                            have c665b1 : (x6_17 != 4) = true := bne_iff_ne.mpr c665
                            by_cases c677 : t192 = true
                            · rw [if_pos c677] at H
                              exact absurd H (by simp)
                            · rw [if_neg c677] at H
                              exact absurd H (by simp)
                      · rw [if_neg c641] at H
                        have c641b0 : (x6_17 == 3) = false := beq_eq_false_iff_ne.mpr c641
                        have c641b1 : (x6_17 != 3) = true := bne_iff_ne.mpr c641
                        by_cases c678 : x6_17 = 4
                        · rw [if_pos c678] at H
                          have c678b0 : (x6_17 == 4) = true := beq_iff_eq.mpr c678
                          have c678b1 : (x6_17 != 4) = false := bne_eq_false_iff_eq.mpr c678
                          clear c678
                          by_cases c679 : (bt t196 0) ≥ 240
                          · rw [if_pos c679] at H
                            have c679b0 : decide (240 ≤ (bt t196 0)) = true := decide_eq_true c679
                            clear c679
                            by_cases c680 : t192 = true
                            · subst c680
                              have H1 : (if (bt t196 0) < 245 then (if (((t200.length : Int) == 1) == (decide (a0 < 65536))) = true then (if 1 ≤ (t196.size : Int) then ((utf_Runes.f (t196.extract 1 t196.size)).bind fun t364 => (some ((t364.length : Int) == (wrap64 (x6_17 - 1))))) else (none)) else (none)) else (none)) = some r := by rw [if_pos rfl] at H; exact H
                              clear H
                              have H := H1
                              clear H1
                              by_cases c681 : (bt t196 0) < 245
                              · rw [if_pos c681] at H
                                have c681b0 : decide ((bt t196 0) < 245) = true := decide_eq_true c681
                                clear c681
                                by_cases c682 : (((t200.length : Int) == 1) == (decide (a0 < 65536))) = true
                                · rw [if_pos c682] at H
                                  have c682b0 : (((t200.length : Int) == 1) == (decide (a0 < 65536))) = true := c682
                                  (try (have c682b1 : decide (((t200.length : Int) == 1) = (decide (a0 < 65536))) = true := by simpa using c682))
                                  (try (have c682b2 : (((t200.length : Int) == 1) == (decide (a0 < 65536))) = true := by simpa using c682))
                                  clear c682
                                  by_cases c683 : 1 ≤ (t196.size : Int)
                                  · rw [if_pos c683] at H
                                    have c683b0 := eq_true c683
                                    have c683b1 : decide (1 ≤ (t196.size : Int)) = true := decide_eq_true c683
                                    clear c683
                                    replace H := Option.bind_eq_some_iff.mp H
                                    obtain ⟨t364, A6840, H⟩ := H
                                    replace H : (some ((t364.length : Int) == (wrap64 (x6_17 - 1)))) = some r := H
                                    have A684 := Aside0.mk A6840
                                    clear A6840
                                    obtain rfl := Option.some.inj H
                                    have p358 : 0 ≤ (0 : Int) := (by omega)
                                    have q358 : 0 < t196.size := (by have : (0 : Int) < (t196.size : Int) := of_decide_eq_true (by first | (with_reducible assumption) | assumption); omega)
                                    have hx358 : ∀ h : 0 < t196.size, ((t196[0]'h).toNat : Int) = bt t196 0 := bt_at t196 0
                                    clear p358
                                    have qi358 : (0 < (t196.size : Int)) = True := eq_true (of_decide_eq_true (by first | (with_reducible assumption) | assumption))
                                    replace q358 := eq_true q358
                                    obtain ⟨Ao685, co685, eo685⟩ := Kd.R_slice HO_5.out
                                    subst eo685
                                    go_wp2_with (first | (go_at_call 15; (with_reducible refine (utf_Runes.calls (t196.extract 1 t196.size) t364 _ A684.out).mono ?_); rintro e w686 ⟨v365, rfl, ho0, hb⟩; have n0_ := Aside0.mk (Kd.R_elder' (by (with_reducible repeat (first | apply Kd.R_alloc | apply Kd.R_drewN | apply Kd.R_drew)); exact HO_5.out) (Kd.R_base ho0) hb); have n1_ := Aside0.mk (Kd.R_lower (Kd.R_new' ho0 (Kd.R_lt (by (with_reducible repeat (first | apply Kd.R_alloc | apply Kd.R_drewN | apply Kd.R_drew)); exact HO_5.out))) (below_size (by repeat (first | (with_reducible first | exact HB.out | apply below_alloc | apply pw_below_drewN | apply below_drew1) | exact HB.out)))); have n2_ := Aside0.mk (below_step (by repeat (first | (with_reducible first | exact HB.out | apply below_alloc | apply pw_below_drewN | apply below_drew1) | exact HB.out)) hb); clear HO_5; clear HB; have HO_5 := n0_; have HO366 := n1_; have HB := n2_; clear n0_ n1_ n2_; (try clear hb); (try clear hb2); (try clear hk); (try clear hi); (try clear ho0); obtain ⟨Ao687, co687, eo687⟩ := Kd.R_slice HO366.out; subst eo687))
                                    go_ret
                                    exact ⟨by first | rfl | (simp [errW_none, errW_some] <;> rfl) | (simp [*, errW_none, errW_some] <;> rfl), by repeat (first | (with_reducible first | exact HB.out | apply below_alloc | apply pw_below_drewN | apply below_drew1) | exact HB.out)⟩
                                  · rw [if_neg c683] at H
                                    exact absurd H (by simp)
                                · rw [if_neg c682] at H
                                  exact absurd H (by simp)
                              · rw [if_neg c681] at H
                                exact absurd H (by simp)
                            · rw [if_neg c680] at H
                              exact absurd H (by simp)
                          · rw [if_neg c679] at H
                            have c679b0 : decide (240 ≤ (bt t196 0)) = false := decide_eq_false c679
                            clear c679
                            by_cases c689 : t192 = true
                            · rw [if_pos c689] at H
                              exact absurd H (by simp)
                            · rw [if_neg c689] at H
                              exact absurd H (by simp)
                        · rw [if_neg c678] at H
                          have c678b0 : (x6_17 == 4) = false := beq_eq_false_iff_ne.mpr c678
                          have c678b1 : (x6_17 != 4) = true := bne_iff_ne.mpr c678
                          by_cases c690 : t192 = true
                          · rw [if_pos c690] at H
                            exact absurd H (by simp)
                          · rw [if_neg c690] at H
                            exact absurd H (by simp)
                · rw [if_neg c357] at H
                  exact absurd H (by simp)
              · rw [if_neg c356] at H
                first
                | exact absurd H (by simp)
                | have c356b0 : ((t196.size : Int) == x6_17) = false := beq_eq_false_iff_ne.mpr c356
                  have c356b1 : ((t196.size : Int) != x6_17) = true := bne_iff_ne.mpr c356
                  obtain rfl := Option.some.inj H
                  go_wp2
                  go_ret
                  exact ⟨by first | rfl | (simp [errW_none, errW_some] <;> rfl) | (simp [*, errW_none, errW_some] <;> rfl), by repeat (first | (with_reducible first | exact HB.out | apply below_alloc | apply pw_below_drewN | apply below_drew1) | exact HB.out)⟩
  · replace c6 := Bool.eq_false_iff.mpr c6
    subst c6
    have H1 : (if t192 = true then (if t196.toList = ([239, 191, 189] : List UInt8) then (if (t200.length : Int) = 1 then (if 0 < (t200.length : Int) then (some ((rd t200 0) == 65533)) else (none)) else (none)) else (none)) else (none)) = some r := by rw [if_neg (show ¬ (false = true) by decide)] at H; exact H
    clear H
    have H := H1
    clear H1
    by_cases c691 : t192 = true
    · subst c691
      have H1 : (if t196.toList = ([239, 191, 189] : List UInt8) then (if (t200.length : Int) = 1 then (if 0 < (t200.length : Int) then (some ((rd t200 0) == 65533)) else (none)) else (none)) else (none)) = some r := by rw [if_pos rfl] at H; exact H
      clear H
      have H := H1
      clear H1
      by_cases c692 : t196.toList = ([239, 191, 189] : List UInt8)
      · rw [if_pos c692] at H
        have c692b0 : (t196.toList == ([239, 191, 189] : List UInt8)) = true := beq_iff_eq.mpr c692
        have c692b1 : (t196.toList != ([239, 191, 189] : List UInt8)) = false := bne_eq_false_iff_eq.mpr c692
        clear c692
        by_cases c693 : (t200.length : Int) = 1
        · rw [if_pos c693] at H
          have c693b0 : ((t200.length : Int) == 1) = true := beq_iff_eq.mpr c693
          have c693b1 : ((t200.length : Int) != 1) = false := bne_eq_false_iff_eq.mpr c693
          clear c693
          by_cases c694 : 0 < (t200.length : Int)
          · rw [if_pos c694] at H
            have c694b0 : decide (0 < (t200.length : Int)) = true := decide_eq_true c694
            have c694b1 : decide (0 < t200.length) = true := decide_eq_true (by omega)
            clear c694
            obtain rfl := Option.some.inj H
            go_enter Tryd.func4, Tryd.ntmps4
            go_wp2_with (first | ((with_reducible refine gate_callee (f := 9) rfl ?_); refine goesL_ (some 9) rfl rfl Tryd.func9 (by kernel_rfl) rfl #[] rfl (by (try simp only [List.map_toArray, List.map_cons, List.map_nil]); first | done | rfl | (simp only [List.length_drop, List.length_take]; rfl)) ?_; (with_reducible refine (hornbooklaw02_awake.calls k  true _ A2.out).mono ?_); rintro e w695 ⟨rfl, hb⟩; refine ⟨_, rfl, ?_⟩; have n0_ := Aside0.mk (below_step (by repeat (first | (with_reducible first | exact HB.out | apply below_alloc | apply pw_below_drewN | apply below_drew1) | exact HB.out)) hb); clear HB; have HB := n0_; clear n0_; (try clear hb); (try clear hb2); (try clear hk); (try clear hi)) | ((with_reducible refine gate_dst (N := 11) rfl ?_); (try (refine gate_guard (by rfl) ?_; dsimp only)); refine Kd.R_lit (Kd.int .i64) _ 3 ?hg (N := 11) ?hd (xs := ([a0] : List Int)) (inner := [.int .i64 a0]) (ok := fun _ => True) (okp := fun _ => True) ?hr ?hp (fun _ hk => hk) trivial (Below.refl _ _) (Nat.le_refl _) (by simp) ?_; (case hd => rfl); (case hg => rfl); (case hr => first | (go_simp; done) | (go_simp; rfl)); (case hp => exact (Reps.one (show Kd.M (Kd.int .i64) _ _ _ a0 [.int .i64 a0] from rfl) (Reps.none _ _))); intro v194 w696 ho697 hb hg_ hnew_; clear hg_ hnew_; (first | rw [← Ny193.out] at ho697 | (simp only [Int.reduceToNat] at ho697; rw [← Ny193.out] at ho697)); have n0_ := Aside0.mk (Kd.R_lower ho697 (below_size (by repeat (first | (with_reducible first | exact HB.out | apply below_alloc | apply pw_below_drewN | apply below_drew1) | exact HB.out)))); have n1_ := Aside0.mk (below_step (by repeat (first | (with_reducible first | exact HB.out | apply below_alloc | apply pw_below_drewN | apply below_drew1) | exact HB.out)) hb); clear HB; have HO195 := n0_; have HB := n1_; clear n0_ n1_; clear hb ho697; obtain ⟨Ao698, co698, eo698⟩ := Kd.R_slice HO195.out; subst eo698) | ((with_reducible refine gate_callee (f := 12) rfl ?_); refine goesL_ (some 12) rfl rfl Tryd.func12 (by kernel_rfl) rfl #[.slice Ao698 y193.length co698] rfl (by (try simp only [List.map_toArray, List.map_cons, List.map_nil]); first | done | rfl | (simp only [List.length_drop, List.length_take]; rfl)) ?_; (with_reducible refine (utf_Text.calls _ _ y193 t196 _ ?side1 ?side2 A3.out).mono ?_); (case side1 => repeat (first | exact (Kd.R_reads' HO195.out).2.2 | (with_reducible refine Kd.C_alloc ?_ _) | (with_reducible refine Kd.C_drewN ?_ _) | (with_reducible refine Kd.C_drew ?_))); (case side2 => exact (Kd.R_reads' HO195.out).2.1); rintro e w699 ⟨rfl, hb⟩; refine ⟨_, rfl, ?_⟩; have n0_ := Aside0.mk (Kd.R_below (by (with_reducible repeat (first | apply Kd.R_alloc | apply Kd.R_drewN | apply Kd.R_drew)); exact HO195.out) hb); have n1_ := Aside0.mk (below_step (by repeat (first | (with_reducible first | exact HB.out | apply below_alloc | apply pw_below_drewN | apply below_drew1) | exact HB.out)) hb); clear HO195; clear HB; have HO195 := n0_; have HB := n1_; clear n0_ n1_; (try clear hb); (try clear hb2); (try clear hk); (try clear hi)) | ((with_reducible refine gate_dst (N := 14) rfl ?_); (try (refine gate_guard (by rfl) ?_; dsimp only)); refine Kd.R_lit (Kd.int .i64) _ 3 ?hg (N := 14) ?hd (xs := ([a0] : List Int)) (inner := [.int .i64 a0]) (ok := fun _ => True) (okp := fun _ => True) ?hr ?hp (fun _ hk => hk) trivial (Below.refl _ _) (Nat.le_refl _) (by simp) ?_; (case hd => rfl); (case hg => rfl); (case hr => first | (go_simp; done) | (go_simp; rfl)); (case hp => exact (Reps.one (show Kd.M (Kd.int .i64) _ _ _ a0 [.int .i64 a0] from rfl) (Reps.none _ _))); intro v198 w700 ho701 hb hg_ hnew_; clear hg_ hnew_; (first | rw [← Ny197.out] at ho701 | (simp only [Int.reduceToNat] at ho701; rw [← Ny197.out] at ho701)); have n0_ := Aside0.mk (Kd.R_elder' (by (with_reducible repeat (first | apply Kd.R_alloc | apply Kd.R_drewN | apply Kd.R_drew)); exact HO195.out) (Kd.R_base ho701) hb); have n1_ := Aside0.mk (Kd.R_lower (Kd.R_new' ho701 (Kd.R_lt (by (with_reducible repeat (first | apply Kd.R_alloc | apply Kd.R_drewN | apply Kd.R_drew)); exact HO195.out))) (below_size (by repeat (first | (with_reducible first | exact HB.out | apply below_alloc | apply pw_below_drewN | apply below_drew1) | exact HB.out)))); have n2_ := Aside0.mk (below_step (by repeat (first | (with_reducible first | exact HB.out | apply below_alloc | apply pw_below_drewN | apply below_drew1) | exact HB.out)) hb); clear HO195; clear HB; have HO195 := n0_; have HO199 := n1_; have HB := n2_; clear n0_ n1_ n2_; clear hb ho701; obtain ⟨Ao702, co702, eo702⟩ := Kd.R_slice HO199.out; subst eo702) | ((with_reducible refine gate_callee (f := 10) rfl ?_); refine goesL_ (some 15) rfl rfl Tryd.func10 (by kernel_rfl) rfl #[.slice Ao702 y197.length co702] rfl (by (try simp only [List.map_toArray, List.map_cons, List.map_nil]); first | done | rfl | (simp only [List.length_drop, List.length_take]; rfl)) ?_; (with_reducible refine (utf_Enc16.calls k _ _ y197 t200 _ ?side1 ?side2 A4.out).mono ?_); (case side1 => repeat (first | exact (Kd.R_reads' HO199.out).2.2 | (with_reducible refine Kd.C_alloc ?_ _) | (with_reducible refine Kd.C_drewN ?_ _) | (with_reducible refine Kd.C_drew ?_))); (case side2 => exact (Kd.R_reads' HO199.out).2.1); rintro e w703 ⟨v201, rfl, ho0, hb⟩; refine ⟨_, rfl, ?_⟩; have n0_ := Aside0.mk (Kd.R_elder' (by (with_reducible repeat (first | apply Kd.R_alloc | apply Kd.R_drewN | apply Kd.R_drew)); exact HO195.out) (Kd.R_base ho0) hb); have n1_ := Aside0.mk (Kd.R_elder' (by (with_reducible repeat (first | apply Kd.R_alloc | apply Kd.R_drewN | apply Kd.R_drew)); exact HO199.out) (Kd.R_base ho0) hb); have n2_ := Aside0.mk (Kd.R_lower (Kd.R_new' (Kd.R_new' ho0 (Kd.R_lt (by (with_reducible repeat (first | apply Kd.R_alloc | apply Kd.R_drewN | apply Kd.R_drew)); exact HO195.out))) (Kd.R_lt (by (with_reducible repeat (first | apply Kd.R_alloc | apply Kd.R_drewN | apply Kd.R_drew)); exact HO199.out))) (below_size (by repeat (first | (with_reducible first | exact HB.out | apply below_alloc | apply pw_below_drewN | apply below_drew1) | exact HB.out)))); have n3_ := Aside0.mk (below_step (by repeat (first | (with_reducible first | exact HB.out | apply below_alloc | apply pw_below_drewN | apply below_drew1) | exact HB.out)) hb); clear HO195; clear HO199; clear HB; have HO195 := n0_; have HO199 := n1_; have HO202 := n2_; have HB := n3_; clear n0_ n1_ n2_ n3_; (try clear hb); (try clear hb2); (try clear hk); (try clear hi); (try clear ho0)) | ((with_reducible refine gate_callee (f := 14) rfl ?_); refine goesL_ (some 17) rfl rfl Tryd.func14 (by kernel_rfl) rfl #[.int .i64 a0] rfl (by (try simp only [List.map_toArray, List.map_cons, List.map_nil]); first | done | rfl | (simp only [List.length_drop, List.length_take]; rfl)) ?_; (with_reducible refine (utf_Good.calls a0 false _ A5.out).mono ?_); rintro e w' ⟨rfl, ⟨nd, rfl⟩⟩; refine ⟨_, rfl, ?_⟩; obtain ⟨Ao704, co704, eo704⟩ := Kd.R_slice HO202.out; subst eo704; have p204 : 0 ≤ (0 : Int) := (by omega); have q204 : 0 < (t200.length : Int) := of_decide_eq_true (by first | (with_reducible assumption) | assumption); obtain ⟨ad204, e204, hx204_0⟩ := Kd.at_int (Kd.R_reads' HO202.out).2.2 0 p204 q204; cases e204; have qi204 : (0 < t200.length) = True := eq_true (by omega); (try rw [show ((0 : Int)).toNat = 0 from rfl] at hx204_0); (try rw [Addr.add_zero'] at hx204_0); replace p204 := eq_true p204; replace q204 := eq_true q204))
            go_ret
            exact ⟨by first | rfl | (simp [errW_none, errW_some] <;> rfl) | (simp [*, errW_none, errW_some] <;> rfl), by repeat (first | (with_reducible first | exact HB.out | apply below_alloc | apply pw_below_drewN | apply below_drew1) | exact HB.out)⟩
          · rw [if_neg c694] at H
            exact absurd H (by simp)
        · rw [if_neg c693] at H
          exact absurd H (by simp)
      · rw [if_neg c692] at H
        exact absurd H (by simp)
    · rw [if_neg c691] at H
      exact absurd H (by simp)
end Go.Proofs.YtlipfldicjihhaaDoor.PAll
