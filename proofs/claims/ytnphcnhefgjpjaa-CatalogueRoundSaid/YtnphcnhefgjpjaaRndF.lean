/- The circles of some numbers of parts, reckoned size by size. Plain. -/
import Derived.Test.YtnphcnhefgjpjaaRndK
namespace Go.Proofs.Ytnphcnhefgjpjaa.Circ
set_option maxRecDepth 100000

def cs33 : List (Nat × Nat × Nat) := [(1, 22468, 11408), (2, 31275, 4831), (3, 37681, 3769), (4, 42778, 3231), (5, 46996, 2897), (6, 50554, 2666), (7, 53584, 2498), (8, 56171, 2370), (9, 58374, 2271), (10, 60237, 2194), (11, 61788, 2132), (12, 63052, 2084), (13, 64045, 2047), (14, 64779, 2020), (15, 65265, 2001), (16, 65506, 1990), (17, 65506, 1986), (18, 65265, 1990), (19, 64779, 2001), (20, 64045, 2020), (21, 63052, 2047), (22, 61788, 2084), (23, 60237, 2132), (24, 58374, 2194), (25, 56171, 2271), (26, 53584, 2370), (27, 50554, 2498), (28, 46996, 2666), (29, 42778, 2897), (30, 37681, 3231), (31, 31275, 3769), (32, 22468, 4831), (33, 0, 11408)]
theorem r33_0 : al (chk 33 440981 cs33) 354 40 = true := by kernel_rfl
theorem r33_1 : al (chk 33 440981 cs33) 354 394 = true := by kernel_rfl
theorem r33_2 : al (chk 33 440981 cs33) 354 748 = true := by kernel_rfl
theorem r33_3 : al (chk 33 440981 cs33) 355 1102 = true := by kernel_rfl
theorem r33_4 : al (chk 33 440981 cs33) 354 1457 = true := by kernel_rfl
theorem r33_5 : al (chk 33 440981 cs33) 354 1811 = true := by kernel_rfl
theorem r33_6 : al (chk 33 440981 cs33) 355 2165 = true := by kernel_rfl
theorem r33_7 : al (chk 33 440981 cs33) 354 2520 = true := by kernel_rfl
theorem r33_8 : al (chk 33 440981 cs33) 354 2874 = true := by kernel_rfl
theorem r33_9 : al (chk 33 440981 cs33) 354 3228 = true := by kernel_rfl
theorem r33_10 : al (chk 33 440981 cs33) 355 3582 = true := by kernel_rfl
theorem r33_11 : al (chk 33 440981 cs33) 354 3937 = true := by kernel_rfl
theorem r33_12 : al (chk 33 440981 cs33) 354 4291 = true := by kernel_rfl
theorem r33_13 : al (chk 33 440981 cs33) 355 4645 = true := by kernel_rfl
theorem r33 : ∀ S, 40 ≤ S → S < 5000 → chk 33 440981 cs33 S = true := fun S h1 h2 => by
  rcases Nat.lt_or_ge S 394 with h | h
  · exact al_at r33_0 (by omega) (by omega)
  rcases Nat.lt_or_ge S 748 with h | h
  · exact al_at r33_1 (by omega) (by omega)
  rcases Nat.lt_or_ge S 1102 with h | h
  · exact al_at r33_2 (by omega) (by omega)
  rcases Nat.lt_or_ge S 1457 with h | h
  · exact al_at r33_3 (by omega) (by omega)
  rcases Nat.lt_or_ge S 1811 with h | h
  · exact al_at r33_4 (by omega) (by omega)
  rcases Nat.lt_or_ge S 2165 with h | h
  · exact al_at r33_5 (by omega) (by omega)
  rcases Nat.lt_or_ge S 2520 with h | h
  · exact al_at r33_6 (by omega) (by omega)
  rcases Nat.lt_or_ge S 2874 with h | h
  · exact al_at r33_7 (by omega) (by omega)
  rcases Nat.lt_or_ge S 3228 with h | h
  · exact al_at r33_8 (by omega) (by omega)
  rcases Nat.lt_or_ge S 3582 with h | h
  · exact al_at r33_9 (by omega) (by omega)
  rcases Nat.lt_or_ge S 3937 with h | h
  · exact al_at r33_10 (by omega) (by omega)
  rcases Nat.lt_or_ge S 4291 with h | h
  · exact al_at r33_11 (by omega) (by omega)
  rcases Nat.lt_or_ge S 4645 with h | h
  · exact al_at r33_12 (by omega) (by omega)
  exact al_at r33_13 (by omega) (by omega)
def cs34 : List (Nat × Nat × Nat) := [(1, 22146, 11240), (2, 30840, 4755), (3, 37177, 3709), (4, 42230, 3178), (5, 46421, 2847), (6, 49967, 2619), (7, 52998, 2452), (8, 55598, 2325), (9, 57826, 2226), (10, 59722, 2148), (11, 61318, 2086), (12, 62637, 2037), (13, 63696, 1999), (14, 64507, 1970), (15, 65081, 1949), (16, 65423, 1935), (17, 65536, 1928), (18, 65423, 1928), (19, 65081, 1935), (20, 64507, 1949), (21, 63696, 1970), (22, 62637, 1999), (23, 61318, 2037), (24, 59722, 2086), (25, 57826, 2148), (26, 55598, 2226), (27, 52998, 2325), (28, 49967, 2452), (29, 46421, 2619), (30, 42230, 2847), (31, 37177, 3178), (32, 30840, 3709), (33, 22146, 4755), (34, 0, 11240)]
theorem r34_0 : al (chk 34 441254 cs34) 330 40 = true := by kernel_rfl
theorem r34_1 : al (chk 34 441254 cs34) 331 370 = true := by kernel_rfl
theorem r34_2 : al (chk 34 441254 cs34) 331 701 = true := by kernel_rfl
theorem r34_3 : al (chk 34 441254 cs34) 330 1032 = true := by kernel_rfl
theorem r34_4 : al (chk 34 441254 cs34) 331 1362 = true := by kernel_rfl
theorem r34_5 : al (chk 34 441254 cs34) 331 1693 = true := by kernel_rfl
theorem r34_6 : al (chk 34 441254 cs34) 330 2024 = true := by kernel_rfl
theorem r34_7 : al (chk 34 441254 cs34) 331 2354 = true := by kernel_rfl
theorem r34_8 : al (chk 34 441254 cs34) 331 2685 = true := by kernel_rfl
theorem r34_9 : al (chk 34 441254 cs34) 330 3016 = true := by kernel_rfl
theorem r34_10 : al (chk 34 441254 cs34) 331 3346 = true := by kernel_rfl
theorem r34_11 : al (chk 34 441254 cs34) 331 3677 = true := by kernel_rfl
theorem r34_12 : al (chk 34 441254 cs34) 330 4008 = true := by kernel_rfl
theorem r34_13 : al (chk 34 441254 cs34) 331 4338 = true := by kernel_rfl
theorem r34_14 : al (chk 34 441254 cs34) 331 4669 = true := by kernel_rfl
theorem r34 : ∀ S, 40 ≤ S → S < 5000 → chk 34 441254 cs34 S = true := fun S h1 h2 => by
  rcases Nat.lt_or_ge S 370 with h | h
  · exact al_at r34_0 (by omega) (by omega)
  rcases Nat.lt_or_ge S 701 with h | h
  · exact al_at r34_1 (by omega) (by omega)
  rcases Nat.lt_or_ge S 1032 with h | h
  · exact al_at r34_2 (by omega) (by omega)
  rcases Nat.lt_or_ge S 1362 with h | h
  · exact al_at r34_3 (by omega) (by omega)
  rcases Nat.lt_or_ge S 1693 with h | h
  · exact al_at r34_4 (by omega) (by omega)
  rcases Nat.lt_or_ge S 2024 with h | h
  · exact al_at r34_5 (by omega) (by omega)
  rcases Nat.lt_or_ge S 2354 with h | h
  · exact al_at r34_6 (by omega) (by omega)
  rcases Nat.lt_or_ge S 2685 with h | h
  · exact al_at r34_7 (by omega) (by omega)
  rcases Nat.lt_or_ge S 3016 with h | h
  · exact al_at r34_8 (by omega) (by omega)
  rcases Nat.lt_or_ge S 3346 with h | h
  · exact al_at r34_9 (by omega) (by omega)
  rcases Nat.lt_or_ge S 3677 with h | h
  · exact al_at r34_10 (by omega) (by omega)
  rcases Nat.lt_or_ge S 4008 with h | h
  · exact al_at r34_11 (by omega) (by omega)
  rcases Nat.lt_or_ge S 4338 with h | h
  · exact al_at r34_12 (by omega) (by omega)
  rcases Nat.lt_or_ge S 4669 with h | h
  · exact al_at r34_13 (by omega) (by omega)
  exact al_at r34_14 (by omega) (by omega)
def cs35 : List (Nat × Nat × Nat) := [(1, 21836, 11077), (2, 30424, 4684), (3, 36693, 3651), (4, 41702, 3127), (5, 45866, 2800), (6, 49399, 2574), (7, 52429, 2409), (8, 55039, 2282), (9, 57286, 2184), (10, 59212, 2106), (11, 60848, 2043), (12, 62215, 1993), (13, 63332, 1954), (14, 64212, 1923), (15, 64864, 1901), (16, 65295, 1885), (17, 65509, 1876), (18, 65509, 1872), (19, 65295, 1876), (20, 64864, 1885), (21, 64212, 1901), (22, 63332, 1923), (23, 62215, 1954), (24, 60848, 1993), (25, 59212, 2043), (26, 57286, 2106), (27, 55039, 2184), (28, 52429, 2282), (29, 49399, 2409), (30, 45866, 2574), (31, 41702, 2800), (32, 36693, 3127), (33, 30424, 3651), (34, 21836, 4684), (35, 0, 11077)]
theorem r35_0 : al (chk 35 441601 cs35) 330 40 = true := by kernel_rfl
theorem r35_1 : al (chk 35 441601 cs35) 331 370 = true := by kernel_rfl
theorem r35_2 : al (chk 35 441601 cs35) 331 701 = true := by kernel_rfl
theorem r35_3 : al (chk 35 441601 cs35) 330 1032 = true := by kernel_rfl
theorem r35_4 : al (chk 35 441601 cs35) 331 1362 = true := by kernel_rfl
theorem r35_5 : al (chk 35 441601 cs35) 331 1693 = true := by kernel_rfl
theorem r35_6 : al (chk 35 441601 cs35) 330 2024 = true := by kernel_rfl
theorem r35_7 : al (chk 35 441601 cs35) 331 2354 = true := by kernel_rfl
theorem r35_8 : al (chk 35 441601 cs35) 331 2685 = true := by kernel_rfl
theorem r35_9 : al (chk 35 441601 cs35) 330 3016 = true := by kernel_rfl
theorem r35_10 : al (chk 35 441601 cs35) 331 3346 = true := by kernel_rfl
theorem r35_11 : al (chk 35 441601 cs35) 331 3677 = true := by kernel_rfl
theorem r35_12 : al (chk 35 441601 cs35) 330 4008 = true := by kernel_rfl
theorem r35_13 : al (chk 35 441601 cs35) 331 4338 = true := by kernel_rfl
theorem r35_14 : al (chk 35 441601 cs35) 331 4669 = true := by kernel_rfl
theorem r35 : ∀ S, 40 ≤ S → S < 5000 → chk 35 441601 cs35 S = true := fun S h1 h2 => by
  rcases Nat.lt_or_ge S 370 with h | h
  · exact al_at r35_0 (by omega) (by omega)
  rcases Nat.lt_or_ge S 701 with h | h
  · exact al_at r35_1 (by omega) (by omega)
  rcases Nat.lt_or_ge S 1032 with h | h
  · exact al_at r35_2 (by omega) (by omega)
  rcases Nat.lt_or_ge S 1362 with h | h
  · exact al_at r35_3 (by omega) (by omega)
  rcases Nat.lt_or_ge S 1693 with h | h
  · exact al_at r35_4 (by omega) (by omega)
  rcases Nat.lt_or_ge S 2024 with h | h
  · exact al_at r35_5 (by omega) (by omega)
  rcases Nat.lt_or_ge S 2354 with h | h
  · exact al_at r35_6 (by omega) (by omega)
  rcases Nat.lt_or_ge S 2685 with h | h
  · exact al_at r35_7 (by omega) (by omega)
  rcases Nat.lt_or_ge S 3016 with h | h
  · exact al_at r35_8 (by omega) (by omega)
  rcases Nat.lt_or_ge S 3346 with h | h
  · exact al_at r35_9 (by omega) (by omega)
  rcases Nat.lt_or_ge S 3677 with h | h
  · exact al_at r35_10 (by omega) (by omega)
  rcases Nat.lt_or_ge S 4008 with h | h
  · exact al_at r35_11 (by omega) (by omega)
  rcases Nat.lt_or_ge S 4338 with h | h
  · exact al_at r35_12 (by omega) (by omega)
  rcases Nat.lt_or_ge S 4669 with h | h
  · exact al_at r35_13 (by omega) (by omega)
  exact al_at r35_14 (by omega) (by omega)
end Go.Proofs.Ytnphcnhefgjpjaa.Circ
