/- The circles of some numbers of parts, reckoned size by size. Plain. -/
import Derived.Test.YtnphcnhefgjpjaaRndK
namespace Go.Proofs.Ytnphcnhefgjpjaa.Circ
set_option maxRecDepth 100000

def cs21 : List (Nat × Nat × Nat) := [(1, 27913, 14301), (2, 38475, 6134), (3, 45866, 4837), (4, 51469, 4194), (5, 55826, 3806), (6, 59212, 3550), (7, 61788, 3376), (8, 63651, 3257), (9, 64864, 3179), (10, 65462, 3135), (11, 65462, 3121), (12, 64864, 3135), (13, 63651, 3179), (14, 61788, 3257), (15, 59212, 3376), (16, 55826, 3550), (17, 51469, 3806), (18, 45866, 4194), (19, 38475, 4837), (20, 27913, 6134), (21, 0, 14301)]
theorem r21_0 : al (chk 21 437796 cs21) 551 40 = true := by kernel_rfl
theorem r21_1 : al (chk 21 437796 cs21) 551 591 = true := by kernel_rfl
theorem r21_2 : al (chk 21 437796 cs21) 551 1142 = true := by kernel_rfl
theorem r21_3 : al (chk 21 437796 cs21) 551 1693 = true := by kernel_rfl
theorem r21_4 : al (chk 21 437796 cs21) 551 2244 = true := by kernel_rfl
theorem r21_5 : al (chk 21 437796 cs21) 551 2795 = true := by kernel_rfl
theorem r21_6 : al (chk 21 437796 cs21) 551 3346 = true := by kernel_rfl
theorem r21_7 : al (chk 21 437796 cs21) 551 3897 = true := by kernel_rfl
theorem r21_8 : al (chk 21 437796 cs21) 552 4448 = true := by kernel_rfl
theorem r21 : ∀ S, 40 ≤ S → S < 5000 → chk 21 437796 cs21 S = true := fun S h1 h2 => by
  rcases Nat.lt_or_ge S 591 with h | h
  · exact al_at r21_0 (by omega) (by omega)
  rcases Nat.lt_or_ge S 1142 with h | h
  · exact al_at r21_1 (by omega) (by omega)
  rcases Nat.lt_or_ge S 1693 with h | h
  · exact al_at r21_2 (by omega) (by omega)
  rcases Nat.lt_or_ge S 2244 with h | h
  · exact al_at r21_3 (by omega) (by omega)
  rcases Nat.lt_or_ge S 2795 with h | h
  · exact al_at r21_4 (by omega) (by omega)
  rcases Nat.lt_or_ge S 3346 with h | h
  · exact al_at r21_5 (by omega) (by omega)
  rcases Nat.lt_or_ge S 3897 with h | h
  · exact al_at r21_6 (by omega) (by omega)
  rcases Nat.lt_or_ge S 4448 with h | h
  · exact al_at r21_7 (by omega) (by omega)
  exact al_at r21_8 (by omega) (by omega)
def cs22 : List (Nat × Nat × Nat) := [(1, 27302, 13972), (2, 37681, 5984), (3, 44981, 4711), (4, 50554, 4079), (5, 54928, 3696), (6, 58374, 3441), (7, 61049, 3265), (8, 63052, 3143), (9, 64444, 3059), (10, 65265, 3007), (11, 65536, 2982), (12, 65265, 2982), (13, 64444, 3007), (14, 63052, 3059), (15, 61049, 3143), (16, 58374, 3265), (17, 54928, 3441), (18, 50554, 3696), (19, 44981, 4079), (20, 37681, 4711), (21, 27302, 5984), (22, 0, 13972)]
theorem r22_0 : al (chk 22 438088 cs22) 496 40 = true := by kernel_rfl
theorem r22_1 : al (chk 22 438088 cs22) 496 536 = true := by kernel_rfl
theorem r22_2 : al (chk 22 438088 cs22) 496 1032 = true := by kernel_rfl
theorem r22_3 : al (chk 22 438088 cs22) 496 1528 = true := by kernel_rfl
theorem r22_4 : al (chk 22 438088 cs22) 496 2024 = true := by kernel_rfl
theorem r22_5 : al (chk 22 438088 cs22) 496 2520 = true := by kernel_rfl
theorem r22_6 : al (chk 22 438088 cs22) 496 3016 = true := by kernel_rfl
theorem r22_7 : al (chk 22 438088 cs22) 496 3512 = true := by kernel_rfl
theorem r22_8 : al (chk 22 438088 cs22) 496 4008 = true := by kernel_rfl
theorem r22_9 : al (chk 22 438088 cs22) 496 4504 = true := by kernel_rfl
theorem r22 : ∀ S, 40 ≤ S → S < 5000 → chk 22 438088 cs22 S = true := fun S h1 h2 => by
  rcases Nat.lt_or_ge S 536 with h | h
  · exact al_at r22_0 (by omega) (by omega)
  rcases Nat.lt_or_ge S 1032 with h | h
  · exact al_at r22_1 (by omega) (by omega)
  rcases Nat.lt_or_ge S 1528 with h | h
  · exact al_at r22_2 (by omega) (by omega)
  rcases Nat.lt_or_ge S 2024 with h | h
  · exact al_at r22_3 (by omega) (by omega)
  rcases Nat.lt_or_ge S 2520 with h | h
  · exact al_at r22_4 (by omega) (by omega)
  rcases Nat.lt_or_ge S 3016 with h | h
  · exact al_at r22_5 (by omega) (by omega)
  rcases Nat.lt_or_ge S 3512 with h | h
  · exact al_at r22_6 (by omega) (by omega)
  rcases Nat.lt_or_ge S 4008 with h | h
  · exact al_at r22_7 (by omega) (by omega)
  rcases Nat.lt_or_ge S 4504 with h | h
  · exact al_at r22_8 (by omega) (by omega)
  exact al_at r22_9 (by omega) (by omega)
def cs23 : List (Nat × Nat × Nat) := [(1, 26730, 13665), (2, 36932, 5843), (3, 44143, 4596), (4, 49681, 3973), (5, 54063, 3594), (6, 57555, 3342), (7, 60310, 3165), (8, 62427, 3040), (9, 63969, 2952), (10, 64976, 2894), (11, 65474, 2860), (12, 65474, 2849), (13, 64976, 2860), (14, 63969, 2894), (15, 62427, 2952), (16, 60310, 3040), (17, 57555, 3165), (18, 54063, 3342), (19, 49681, 3594), (20, 44143, 3973), (21, 36932, 4596), (22, 26730, 5843), (23, 0, 13665)]
theorem r23_0 : al (chk 23 438629 cs23) 496 40 = true := by kernel_rfl
theorem r23_1 : al (chk 23 438629 cs23) 496 536 = true := by kernel_rfl
theorem r23_2 : al (chk 23 438629 cs23) 496 1032 = true := by kernel_rfl
theorem r23_3 : al (chk 23 438629 cs23) 496 1528 = true := by kernel_rfl
theorem r23_4 : al (chk 23 438629 cs23) 496 2024 = true := by kernel_rfl
theorem r23_5 : al (chk 23 438629 cs23) 496 2520 = true := by kernel_rfl
theorem r23_6 : al (chk 23 438629 cs23) 496 3016 = true := by kernel_rfl
theorem r23_7 : al (chk 23 438629 cs23) 496 3512 = true := by kernel_rfl
theorem r23_8 : al (chk 23 438629 cs23) 496 4008 = true := by kernel_rfl
theorem r23_9 : al (chk 23 438629 cs23) 496 4504 = true := by kernel_rfl
theorem r23 : ∀ S, 40 ≤ S → S < 5000 → chk 23 438629 cs23 S = true := fun S h1 h2 => by
  rcases Nat.lt_or_ge S 536 with h | h
  · exact al_at r23_0 (by omega) (by omega)
  rcases Nat.lt_or_ge S 1032 with h | h
  · exact al_at r23_1 (by omega) (by omega)
  rcases Nat.lt_or_ge S 1528 with h | h
  · exact al_at r23_2 (by omega) (by omega)
  rcases Nat.lt_or_ge S 2024 with h | h
  · exact al_at r23_3 (by omega) (by omega)
  rcases Nat.lt_or_ge S 2520 with h | h
  · exact al_at r23_4 (by omega) (by omega)
  rcases Nat.lt_or_ge S 3016 with h | h
  · exact al_at r23_5 (by omega) (by omega)
  rcases Nat.lt_or_ge S 3512 with h | h
  · exact al_at r23_6 (by omega) (by omega)
  rcases Nat.lt_or_ge S 4008 with h | h
  · exact al_at r23_7 (by omega) (by omega)
  rcases Nat.lt_or_ge S 4504 with h | h
  · exact al_at r23_8 (by omega) (by omega)
  exact al_at r23_9 (by omega) (by omega)
def cs24 : List (Nat × Nat × Nat) := [(1, 26192, 13378), (2, 36226, 5712), (3, 43348, 4487), (4, 48848, 3875), (5, 53230, 3501), (6, 56756, 3250), (7, 59576, 3073), (8, 61788, 2946), (9, 63455, 2855), (10, 64619, 2792), (11, 65308, 2752), (12, 65536, 2733), (13, 65308, 2733), (14, 64619, 2752), (15, 63455, 2792), (16, 61788, 2855), (17, 59576, 2946), (18, 56756, 3073), (19, 53230, 3250), (20, 48848, 3501), (21, 43348, 3875), (22, 36226, 4487), (23, 26192, 5712), (24, 0, 13378)]
theorem r24_0 : al (chk 24 438617 cs24) 496 40 = true := by kernel_rfl
theorem r24_1 : al (chk 24 438617 cs24) 496 536 = true := by kernel_rfl
theorem r24_2 : al (chk 24 438617 cs24) 496 1032 = true := by kernel_rfl
theorem r24_3 : al (chk 24 438617 cs24) 496 1528 = true := by kernel_rfl
theorem r24_4 : al (chk 24 438617 cs24) 496 2024 = true := by kernel_rfl
theorem r24_5 : al (chk 24 438617 cs24) 496 2520 = true := by kernel_rfl
theorem r24_6 : al (chk 24 438617 cs24) 496 3016 = true := by kernel_rfl
theorem r24_7 : al (chk 24 438617 cs24) 496 3512 = true := by kernel_rfl
theorem r24_8 : al (chk 24 438617 cs24) 496 4008 = true := by kernel_rfl
theorem r24_9 : al (chk 24 438617 cs24) 496 4504 = true := by kernel_rfl
theorem r24 : ∀ S, 40 ≤ S → S < 5000 → chk 24 438617 cs24 S = true := fun S h1 h2 => by
  rcases Nat.lt_or_ge S 536 with h | h
  · exact al_at r24_0 (by omega) (by omega)
  rcases Nat.lt_or_ge S 1032 with h | h
  · exact al_at r24_1 (by omega) (by omega)
  rcases Nat.lt_or_ge S 1528 with h | h
  · exact al_at r24_2 (by omega) (by omega)
  rcases Nat.lt_or_ge S 2024 with h | h
  · exact al_at r24_3 (by omega) (by omega)
  rcases Nat.lt_or_ge S 2520 with h | h
  · exact al_at r24_4 (by omega) (by omega)
  rcases Nat.lt_or_ge S 3016 with h | h
  · exact al_at r24_5 (by omega) (by omega)
  rcases Nat.lt_or_ge S 3512 with h | h
  · exact al_at r24_6 (by omega) (by omega)
  rcases Nat.lt_or_ge S 4008 with h | h
  · exact al_at r24_7 (by omega) (by omega)
  rcases Nat.lt_or_ge S 4504 with h | h
  · exact al_at r24_8 (by omega) (by omega)
  exact al_at r24_9 (by omega) (by omega)
def cs25 : List (Nat × Nat × Nat) := [(1, 25685, 13107), (2, 35559, 5590), (3, 42593, 4386), (4, 48052, 3784), (5, 52429, 3415), (6, 55979, 3166), (7, 58851, 2989), (8, 61142, 2861), (9, 62915, 2767), (10, 64212, 2700), (11, 65062, 2656), (12, 65484, 2630), (13, 65484, 2621), (14, 65062, 2630), (15, 64212, 2656), (16, 62915, 2700), (17, 61142, 2767), (18, 58851, 2861), (19, 55979, 2989), (20, 52429, 3166), (21, 48052, 3415), (22, 42593, 3784), (23, 35559, 4386), (24, 25685, 5590), (25, 0, 13107)]
theorem r25_0 : al (chk 25 438856 cs25) 450 40 = true := by kernel_rfl
theorem r25_1 : al (chk 25 438856 cs25) 451 490 = true := by kernel_rfl
theorem r25_2 : al (chk 25 438856 cs25) 451 941 = true := by kernel_rfl
theorem r25_3 : al (chk 25 438856 cs25) 451 1392 = true := by kernel_rfl
theorem r25_4 : al (chk 25 438856 cs25) 451 1843 = true := by kernel_rfl
theorem r25_5 : al (chk 25 438856 cs25) 451 2294 = true := by kernel_rfl
theorem r25_6 : al (chk 25 438856 cs25) 451 2745 = true := by kernel_rfl
theorem r25_7 : al (chk 25 438856 cs25) 451 3196 = true := by kernel_rfl
theorem r25_8 : al (chk 25 438856 cs25) 451 3647 = true := by kernel_rfl
theorem r25_9 : al (chk 25 438856 cs25) 451 4098 = true := by kernel_rfl
theorem r25_10 : al (chk 25 438856 cs25) 451 4549 = true := by kernel_rfl
theorem r25 : ∀ S, 40 ≤ S → S < 5000 → chk 25 438856 cs25 S = true := fun S h1 h2 => by
  rcases Nat.lt_or_ge S 490 with h | h
  · exact al_at r25_0 (by omega) (by omega)
  rcases Nat.lt_or_ge S 941 with h | h
  · exact al_at r25_1 (by omega) (by omega)
  rcases Nat.lt_or_ge S 1392 with h | h
  · exact al_at r25_2 (by omega) (by omega)
  rcases Nat.lt_or_ge S 1843 with h | h
  · exact al_at r25_3 (by omega) (by omega)
  rcases Nat.lt_or_ge S 2294 with h | h
  · exact al_at r25_4 (by omega) (by omega)
  rcases Nat.lt_or_ge S 2745 with h | h
  · exact al_at r25_5 (by omega) (by omega)
  rcases Nat.lt_or_ge S 3196 with h | h
  · exact al_at r25_6 (by omega) (by omega)
  rcases Nat.lt_or_ge S 3647 with h | h
  · exact al_at r25_7 (by omega) (by omega)
  rcases Nat.lt_or_ge S 4098 with h | h
  · exact al_at r25_8 (by omega) (by omega)
  rcases Nat.lt_or_ge S 4549 with h | h
  · exact al_at r25_9 (by omega) (by omega)
  exact al_at r25_10 (by omega) (by omega)
end Go.Proofs.Ytnphcnhefgjpjaa.Circ
