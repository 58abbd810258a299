/- The circles of some numbers of parts, reckoned size by size. Plain. -/
import Derived.Test.YtnphcnhefgjpjaaRndK
namespace Go.Proofs.Ytnphcnhefgjpjaa.Circ
set_option maxRecDepth 100000

def cs30 : List (Nat × Nat × Nat) := [(1, 23528, 11965), (2, 32695, 5077), (3, 39322, 3969), (4, 44556, 3409), (5, 48848, 3062), (6, 52429, 2825), (7, 55437, 2652), (8, 57962, 2523), (9, 60065, 2424), (10, 61788, 2348), (11, 63163, 2290), (12, 64212, 2247), (13, 64951, 2216), (14, 65390, 2196), (15, 65536, 2186), (16, 65390, 2186), (17, 64951, 2196), (18, 64212, 2216), (19, 63163, 2247), (20, 61788, 2290), (21, 60065, 2348), (22, 57962, 2424), (23, 55437, 2523), (24, 52429, 2652), (25, 48848, 2825), (26, 44556, 3062), (27, 39322, 3409), (28, 32695, 3969), (29, 23528, 5077), (30, 0, 11965)]
theorem r30_0 : al (chk 30 439481 cs30) 381 40 = true := by kernel_rfl
theorem r30_1 : al (chk 30 439481 cs30) 382 421 = true := by kernel_rfl
theorem r30_2 : al (chk 30 439481 cs30) 381 803 = true := by kernel_rfl
theorem r30_3 : al (chk 30 439481 cs30) 382 1184 = true := by kernel_rfl
theorem r30_4 : al (chk 30 439481 cs30) 381 1566 = true := by kernel_rfl
theorem r30_5 : al (chk 30 439481 cs30) 382 1947 = true := by kernel_rfl
theorem r30_6 : al (chk 30 439481 cs30) 381 2329 = true := by kernel_rfl
theorem r30_7 : al (chk 30 439481 cs30) 382 2710 = true := by kernel_rfl
theorem r30_8 : al (chk 30 439481 cs30) 381 3092 = true := by kernel_rfl
theorem r30_9 : al (chk 30 439481 cs30) 382 3473 = true := by kernel_rfl
theorem r30_10 : al (chk 30 439481 cs30) 381 3855 = true := by kernel_rfl
theorem r30_11 : al (chk 30 439481 cs30) 382 4236 = true := by kernel_rfl
theorem r30_12 : al (chk 30 439481 cs30) 382 4618 = true := by kernel_rfl
theorem r30 : ∀ S, 40 ≤ S → S < 5000 → chk 30 439481 cs30 S = true := fun S h1 h2 => by
  rcases Nat.lt_or_ge S 421 with h | h
  · exact al_at r30_0 (by omega) (by omega)
  rcases Nat.lt_or_ge S 803 with h | h
  · exact al_at r30_1 (by omega) (by omega)
  rcases Nat.lt_or_ge S 1184 with h | h
  · exact al_at r30_2 (by omega) (by omega)
  rcases Nat.lt_or_ge S 1566 with h | h
  · exact al_at r30_3 (by omega) (by omega)
  rcases Nat.lt_or_ge S 1947 with h | h
  · exact al_at r30_4 (by omega) (by omega)
  rcases Nat.lt_or_ge S 2329 with h | h
  · exact al_at r30_5 (by omega) (by omega)
  rcases Nat.lt_or_ge S 2710 with h | h
  · exact al_at r30_6 (by omega) (by omega)
  rcases Nat.lt_or_ge S 3092 with h | h
  · exact al_at r30_7 (by omega) (by omega)
  rcases Nat.lt_or_ge S 3473 with h | h
  · exact al_at r30_8 (by omega) (by omega)
  rcases Nat.lt_or_ge S 3855 with h | h
  · exact al_at r30_9 (by omega) (by omega)
  rcases Nat.lt_or_ge S 4236 with h | h
  · exact al_at r30_10 (by omega) (by omega)
  rcases Nat.lt_or_ge S 4618 with h | h
  · exact al_at r30_11 (by omega) (by omega)
  exact al_at r30_12 (by omega) (by omega)
def cs31 : List (Nat × Nat × Nat) := [(1, 23158, 11770), (2, 32200, 4991), (3, 38751, 3898), (4, 43940, 3347), (5, 48208, 3004), (6, 51784, 2769), (7, 54803, 2598), (8, 57353, 2469), (9, 59495, 2370), (10, 61271, 2293), (11, 62713, 2234), (12, 63843, 2188), (13, 64678, 2155), (14, 65228, 2132), (15, 65502, 2118), (16, 65502, 2114), (17, 65228, 2118), (18, 64678, 2132), (19, 63843, 2155), (20, 62713, 2188), (21, 61271, 2234), (22, 59495, 2293), (23, 57353, 2370), (24, 54803, 2469), (25, 51784, 2598), (26, 48208, 2769), (27, 43940, 3004), (28, 38751, 3347), (29, 32200, 3898), (30, 23158, 4991), (31, 0, 11770)]
theorem r31_0 : al (chk 31 439934 cs31) 381 40 = true := by kernel_rfl
theorem r31_1 : al (chk 31 439934 cs31) 382 421 = true := by kernel_rfl
theorem r31_2 : al (chk 31 439934 cs31) 381 803 = true := by kernel_rfl
theorem r31_3 : al (chk 31 439934 cs31) 382 1184 = true := by kernel_rfl
theorem r31_4 : al (chk 31 439934 cs31) 381 1566 = true := by kernel_rfl
theorem r31_5 : al (chk 31 439934 cs31) 382 1947 = true := by kernel_rfl
theorem r31_6 : al (chk 31 439934 cs31) 381 2329 = true := by kernel_rfl
theorem r31_7 : al (chk 31 439934 cs31) 382 2710 = true := by kernel_rfl
theorem r31_8 : al (chk 31 439934 cs31) 381 3092 = true := by kernel_rfl
theorem r31_9 : al (chk 31 439934 cs31) 382 3473 = true := by kernel_rfl
theorem r31_10 : al (chk 31 439934 cs31) 381 3855 = true := by kernel_rfl
theorem r31_11 : al (chk 31 439934 cs31) 382 4236 = true := by kernel_rfl
theorem r31_12 : al (chk 31 439934 cs31) 382 4618 = true := by kernel_rfl
theorem r31 : ∀ S, 40 ≤ S → S < 5000 → chk 31 439934 cs31 S = true := fun S h1 h2 => by
  rcases Nat.lt_or_ge S 421 with h | h
  · exact al_at r31_0 (by omega) (by omega)
  rcases Nat.lt_or_ge S 803 with h | h
  · exact al_at r31_1 (by omega) (by omega)
  rcases Nat.lt_or_ge S 1184 with h | h
  · exact al_at r31_2 (by omega) (by omega)
  rcases Nat.lt_or_ge S 1566 with h | h
  · exact al_at r31_3 (by omega) (by omega)
  rcases Nat.lt_or_ge S 1947 with h | h
  · exact al_at r31_4 (by omega) (by omega)
  rcases Nat.lt_or_ge S 2329 with h | h
  · exact al_at r31_5 (by omega) (by omega)
  rcases Nat.lt_or_ge S 2710 with h | h
  · exact al_at r31_6 (by omega) (by omega)
  rcases Nat.lt_or_ge S 3092 with h | h
  · exact al_at r31_7 (by omega) (by omega)
  rcases Nat.lt_or_ge S 3473 with h | h
  · exact al_at r31_8 (by omega) (by omega)
  rcases Nat.lt_or_ge S 3855 with h | h
  · exact al_at r31_9 (by omega) (by omega)
  rcases Nat.lt_or_ge S 4236 with h | h
  · exact al_at r31_10 (by omega) (by omega)
  rcases Nat.lt_or_ge S 4618 with h | h
  · exact al_at r31_11 (by omega) (by omega)
  exact al_at r31_12 (by omega) (by omega)
def cs32 : List (Nat × Nat × Nat) := [(1, 22806, 11585), (2, 31727, 4908), (3, 38205, 3832), (4, 43348, 3287), (5, 47591, 2949), (6, 51159, 2716), (7, 54185, 2546), (8, 56756, 2418), (9, 58931, 2319), (10, 60753, 2241), (11, 62254, 2181), (12, 63455, 2134), (13, 64374, 2099), (14, 65022, 2073), (15, 65408, 2057), (16, 65536, 2049), (17, 65408, 2049), (18, 65022, 2057), (19, 64374, 2073), (20, 63455, 2099), (21, 62254, 2134), (22, 60753, 2181), (23, 58931, 2241), (24, 56756, 2319), (25, 54185, 2418), (26, 51159, 2546), (27, 47591, 2716), (28, 43348, 2949), (29, 38205, 3287), (30, 31727, 3832), (31, 22806, 4908), (32, 0, 11585)]
theorem r32_0 : al (chk 32 440470 cs32) 354 40 = true := by kernel_rfl
theorem r32_1 : al (chk 32 440470 cs32) 354 394 = true := by kernel_rfl
theorem r32_2 : al (chk 32 440470 cs32) 354 748 = true := by kernel_rfl
theorem r32_3 : al (chk 32 440470 cs32) 355 1102 = true := by kernel_rfl
theorem r32_4 : al (chk 32 440470 cs32) 354 1457 = true := by kernel_rfl
theorem r32_5 : al (chk 32 440470 cs32) 354 1811 = true := by kernel_rfl
theorem r32_6 : al (chk 32 440470 cs32) 355 2165 = true := by kernel_rfl
theorem r32_7 : al (chk 32 440470 cs32) 354 2520 = true := by kernel_rfl
theorem r32_8 : al (chk 32 440470 cs32) 354 2874 = true := by kernel_rfl
theorem r32_9 : al (chk 32 440470 cs32) 354 3228 = true := by kernel_rfl
theorem r32_10 : al (chk 32 440470 cs32) 355 3582 = true := by kernel_rfl
theorem r32_11 : al (chk 32 440470 cs32) 354 3937 = true := by kernel_rfl
theorem r32_12 : al (chk 32 440470 cs32) 354 4291 = true := by kernel_rfl
theorem r32_13 : al (chk 32 440470 cs32) 355 4645 = true := by kernel_rfl
theorem r32 : ∀ S, 40 ≤ S → S < 5000 → chk 32 440470 cs32 S = true := fun S h1 h2 => by
  rcases Nat.lt_or_ge S 394 with h | h
  · exact al_at r32_0 (by omega) (by omega)
  rcases Nat.lt_or_ge S 748 with h | h
  · exact al_at r32_1 (by omega) (by omega)
  rcases Nat.lt_or_ge S 1102 with h | h
  · exact al_at r32_2 (by omega) (by omega)
  rcases Nat.lt_or_ge S 1457 with h | h
  · exact al_at r32_3 (by omega) (by omega)
  rcases Nat.lt_or_ge S 1811 with h | h
  · exact al_at r32_4 (by omega) (by omega)
  rcases Nat.lt_or_ge S 2165 with h | h
  · exact al_at r32_5 (by omega) (by omega)
  rcases Nat.lt_or_ge S 2520 with h | h
  · exact al_at r32_6 (by omega) (by omega)
  rcases Nat.lt_or_ge S 2874 with h | h
  · exact al_at r32_7 (by omega) (by omega)
  rcases Nat.lt_or_ge S 3228 with h | h
  · exact al_at r32_8 (by omega) (by omega)
  rcases Nat.lt_or_ge S 3582 with h | h
  · exact al_at r32_9 (by omega) (by omega)
  rcases Nat.lt_or_ge S 3937 with h | h
  · exact al_at r32_10 (by omega) (by omega)
  rcases Nat.lt_or_ge S 4291 with h | h
  · exact al_at r32_11 (by omega) (by omega)
  rcases Nat.lt_or_ge S 4645 with h | h
  · exact al_at r32_12 (by omega) (by omega)
  exact al_at r32_13 (by omega) (by omega)
end Go.Proofs.Ytnphcnhefgjpjaa.Circ
