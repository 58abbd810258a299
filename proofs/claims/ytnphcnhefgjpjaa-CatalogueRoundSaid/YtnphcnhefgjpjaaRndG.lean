/- The circles of some numbers of parts, reckoned size by size. Plain. -/
import Derived.Test.YtnphcnhefgjpjaaRndK
namespace Go.Proofs.Ytnphcnhefgjpjaa.Circ
set_option maxRecDepth 100000

def cs36 : List (Nat × Nat × Nat) := [(1, 21540, 10923), (2, 30024, 4616), (3, 36226, 3596), (4, 41192, 3079), (5, 45329, 2755), (6, 48848, 2532), (7, 51875, 2367), (8, 54492, 2242), (9, 56756, 2144), (10, 58708, 2066), (11, 60377, 2003), (12, 61788, 1952), (13, 62957, 1912), (14, 63897, 1880), (15, 64619, 1856), (16, 65130, 1838), (17, 65435, 1827), (18, 65536, 1821), (19, 65435, 1821), (20, 65130, 1827), (21, 64619, 1838), (22, 63897, 1856), (23, 62957, 1880), (24, 61788, 1912), (25, 60377, 1952), (26, 58708, 2003), (27, 56756, 2066), (28, 54492, 2144), (29, 51875, 2242), (30, 48848, 2367), (31, 45329, 2532), (32, 41192, 2755), (33, 36226, 3079), (34, 30024, 3596), (35, 21540, 4616), (36, 0, 10923)]
theorem r36_0 : al (chk 36 441684 cs36) 330 40 = true := by kernel_rfl
theorem r36_1 : al (chk 36 441684 cs36) 331 370 = true := by kernel_rfl
theorem r36_2 : al (chk 36 441684 cs36) 331 701 = true := by kernel_rfl
theorem r36_3 : al (chk 36 441684 cs36) 330 1032 = true := by kernel_rfl
theorem r36_4 : al (chk 36 441684 cs36) 331 1362 = true := by kernel_rfl
theorem r36_5 : al (chk 36 441684 cs36) 331 1693 = true := by kernel_rfl
theorem r36_6 : al (chk 36 441684 cs36) 330 2024 = true := by kernel_rfl
theorem r36_7 : al (chk 36 441684 cs36) 331 2354 = true := by kernel_rfl
theorem r36_8 : al (chk 36 441684 cs36) 331 2685 = true := by kernel_rfl
theorem r36_9 : al (chk 36 441684 cs36) 330 3016 = true := by kernel_rfl
theorem r36_10 : al (chk 36 441684 cs36) 331 3346 = true := by kernel_rfl
theorem r36_11 : al (chk 36 441684 cs36) 331 3677 = true := by kernel_rfl
theorem r36_12 : al (chk 36 441684 cs36) 330 4008 = true := by kernel_rfl
theorem r36_13 : al (chk 36 441684 cs36) 331 4338 = true := by kernel_rfl
theorem r36_14 : al (chk 36 441684 cs36) 331 4669 = true := by kernel_rfl
theorem r36 : ∀ S, 40 ≤ S → S < 5000 → chk 36 441684 cs36 S = true := fun S h1 h2 => by
  rcases Nat.lt_or_ge S 370 with h | h
  · exact al_at r36_0 (by omega) (by omega)
  rcases Nat.lt_or_ge S 701 with h | h
  · exact al_at r36_1 (by omega) (by omega)
  rcases Nat.lt_or_ge S 1032 with h | h
  · exact al_at r36_2 (by omega) (by omega)
  rcases Nat.lt_or_ge S 1362 with h | h
  · exact al_at r36_3 (by omega) (by omega)
  rcases Nat.lt_or_ge S 1693 with h | h
  · exact al_at r36_4 (by omega) (by omega)
  rcases Nat.lt_or_ge S 2024 with h | h
  · exact al_at r36_5 (by omega) (by omega)
  rcases Nat.lt_or_ge S 2354 with h | h
  · exact al_at r36_6 (by omega) (by omega)
  rcases Nat.lt_or_ge S 2685 with h | h
  · exact al_at r36_7 (by omega) (by omega)
  rcases Nat.lt_or_ge S 3016 with h | h
  · exact al_at r36_8 (by omega) (by omega)
  rcases Nat.lt_or_ge S 3346 with h | h
  · exact al_at r36_9 (by omega) (by omega)
  rcases Nat.lt_or_ge S 3677 with h | h
  · exact al_at r36_10 (by omega) (by omega)
  rcases Nat.lt_or_ge S 4008 with h | h
  · exact al_at r36_11 (by omega) (by omega)
  rcases Nat.lt_or_ge S 4338 with h | h
  · exact al_at r36_12 (by omega) (by omega)
  rcases Nat.lt_or_ge S 4669 with h | h
  · exact al_at r36_13 (by omega) (by omega)
  exact al_at r36_14 (by omega) (by omega)
def cs37 : List (Nat × Nat × Nat) := [(1, 21255, 10774), (2, 29639, 4551), (3, 35777, 3543), (4, 40700, 3033), (5, 44809, 2713), (6, 48313, 2491), (7, 51336, 2329), (8, 53958, 2204), (9, 56235, 2106), (10, 58209, 2028), (11, 59909, 1965), (12, 61358, 1914), (13, 62573, 1873), (14, 63568, 1840), (15, 64352, 1814), (16, 64935, 1795), (17, 65320, 1782), (18, 65512, 1774), (19, 65512, 1771), (20, 65320, 1774), (21, 64935, 1782), (22, 64352, 1795), (23, 63568, 1814), (24, 62573, 1840), (25, 61358, 1873), (26, 59909, 1914), (27, 58209, 1965), (28, 56235, 2028), (29, 53958, 2106), (30, 51336, 2204), (31, 48313, 2329), (32, 44809, 2491), (33, 40700, 2713), (34, 35777, 3033), (35, 29639, 3543), (36, 21255, 4551), (37, 0, 10774)]
theorem r37_0 : al (chk 37 442017 cs37) 310 40 = true := by kernel_rfl
theorem r37_1 : al (chk 37 442017 cs37) 310 350 = true := by kernel_rfl
theorem r37_2 : al (chk 37 442017 cs37) 310 660 = true := by kernel_rfl
theorem r37_3 : al (chk 37 442017 cs37) 310 970 = true := by kernel_rfl
theorem r37_4 : al (chk 37 442017 cs37) 310 1280 = true := by kernel_rfl
theorem r37_5 : al (chk 37 442017 cs37) 310 1590 = true := by kernel_rfl
theorem r37_6 : al (chk 37 442017 cs37) 310 1900 = true := by kernel_rfl
theorem r37_7 : al (chk 37 442017 cs37) 310 2210 = true := by kernel_rfl
theorem r37_8 : al (chk 37 442017 cs37) 310 2520 = true := by kernel_rfl
theorem r37_9 : al (chk 37 442017 cs37) 310 2830 = true := by kernel_rfl
theorem r37_10 : al (chk 37 442017 cs37) 310 3140 = true := by kernel_rfl
theorem r37_11 : al (chk 37 442017 cs37) 310 3450 = true := by kernel_rfl
theorem r37_12 : al (chk 37 442017 cs37) 310 3760 = true := by kernel_rfl
theorem r37_13 : al (chk 37 442017 cs37) 310 4070 = true := by kernel_rfl
theorem r37_14 : al (chk 37 442017 cs37) 310 4380 = true := by kernel_rfl
theorem r37_15 : al (chk 37 442017 cs37) 310 4690 = true := by kernel_rfl
theorem r37 : ∀ S, 40 ≤ S → S < 5000 → chk 37 442017 cs37 S = true := fun S h1 h2 => by
  rcases Nat.lt_or_ge S 350 with h | h
  · exact al_at r37_0 (by omega) (by omega)
  rcases Nat.lt_or_ge S 660 with h | h
  · exact al_at r37_1 (by omega) (by omega)
  rcases Nat.lt_or_ge S 970 with h | h
  · exact al_at r37_2 (by omega) (by omega)
  rcases Nat.lt_or_ge S 1280 with h | h
  · exact al_at r37_3 (by omega) (by omega)
  rcases Nat.lt_or_ge S 1590 with h | h
  · exact al_at r37_4 (by omega) (by omega)
  rcases Nat.lt_or_ge S 1900 with h | h
  · exact al_at r37_5 (by omega) (by omega)
  rcases Nat.lt_or_ge S 2210 with h | h
  · exact al_at r37_6 (by omega) (by omega)
  rcases Nat.lt_or_ge S 2520 with h | h
  · exact al_at r37_7 (by omega) (by omega)
  rcases Nat.lt_or_ge S 2830 with h | h
  · exact al_at r37_8 (by omega) (by omega)
  rcases Nat.lt_or_ge S 3140 with h | h
  · exact al_at r37_9 (by omega) (by omega)
  rcases Nat.lt_or_ge S 3450 with h | h
  · exact al_at r37_10 (by omega) (by omega)
  rcases Nat.lt_or_ge S 3760 with h | h
  · exact al_at r37_11 (by omega) (by omega)
  rcases Nat.lt_or_ge S 4070 with h | h
  · exact al_at r37_12 (by omega) (by omega)
  rcases Nat.lt_or_ge S 4380 with h | h
  · exact al_at r37_13 (by omega) (by omega)
  rcases Nat.lt_or_ge S 4690 with h | h
  · exact al_at r37_14 (by omega) (by omega)
  exact al_at r37_15 (by omega) (by omega)
def cs38 : List (Nat × Nat × Nat) := [(1, 20981, 10631), (2, 29268, 4488), (3, 35344, 3493), (4, 40225, 2988), (5, 44307, 2672), (6, 47794, 2452), (7, 50811, 2291), (8, 53436, 2167), (9, 55725, 2070), (10, 57717, 1992), (11, 59444, 1929), (12, 60926, 1877), (13, 62182, 1835), (14, 63226, 1802), (15, 64067, 1775), (16, 64714, 1755), (17, 65172, 1740), (18, 65445, 1730), (19, 65536, 1725), (20, 65445, 1725), (21, 65172, 1730), (22, 64714, 1740), (23, 64067, 1755), (24, 63226, 1775), (25, 62182, 1802), (26, 60926, 1835), (27, 59444, 1877), (28, 57717, 1929), (29, 55725, 1992), (30, 53436, 2070), (31, 50811, 2167), (32, 47794, 2291), (33, 44307, 2452), (34, 40225, 2672), (35, 35344, 2988), (36, 29268, 3493), (37, 20981, 4488), (38, 0, 10631)]
theorem r38_0 : al (chk 38 442067 cs38) 310 40 = true := by kernel_rfl
theorem r38_1 : al (chk 38 442067 cs38) 310 350 = true := by kernel_rfl
theorem r38_2 : al (chk 38 442067 cs38) 310 660 = true := by kernel_rfl
theorem r38_3 : al (chk 38 442067 cs38) 310 970 = true := by kernel_rfl
theorem r38_4 : al (chk 38 442067 cs38) 310 1280 = true := by kernel_rfl
theorem r38_5 : al (chk 38 442067 cs38) 310 1590 = true := by kernel_rfl
theorem r38_6 : al (chk 38 442067 cs38) 310 1900 = true := by kernel_rfl
theorem r38_7 : al (chk 38 442067 cs38) 310 2210 = true := by kernel_rfl
theorem r38_8 : al (chk 38 442067 cs38) 310 2520 = true := by kernel_rfl
theorem r38_9 : al (chk 38 442067 cs38) 310 2830 = true := by kernel_rfl
theorem r38_10 : al (chk 38 442067 cs38) 310 3140 = true := by kernel_rfl
theorem r38_11 : al (chk 38 442067 cs38) 310 3450 = true := by kernel_rfl
theorem r38_12 : al (chk 38 442067 cs38) 310 3760 = true := by kernel_rfl
theorem r38_13 : al (chk 38 442067 cs38) 310 4070 = true := by kernel_rfl
theorem r38_14 : al (chk 38 442067 cs38) 310 4380 = true := by kernel_rfl
theorem r38_15 : al (chk 38 442067 cs38) 310 4690 = true := by kernel_rfl
theorem r38 : ∀ S, 40 ≤ S → S < 5000 → chk 38 442067 cs38 S = true := fun S h1 h2 => by
  rcases Nat.lt_or_ge S 350 with h | h
  · exact al_at r38_0 (by omega) (by omega)
  rcases Nat.lt_or_ge S 660 with h | h
  · exact al_at r38_1 (by omega) (by omega)
  rcases Nat.lt_or_ge S 970 with h | h
  · exact al_at r38_2 (by omega) (by omega)
  rcases Nat.lt_or_ge S 1280 with h | h
  · exact al_at r38_3 (by omega) (by omega)
  rcases Nat.lt_or_ge S 1590 with h | h
  · exact al_at r38_4 (by omega) (by omega)
  rcases Nat.lt_or_ge S 1900 with h | h
  · exact al_at r38_5 (by omega) (by omega)
  rcases Nat.lt_or_ge S 2210 with h | h
  · exact al_at r38_6 (by omega) (by omega)
  rcases Nat.lt_or_ge S 2520 with h | h
  · exact al_at r38_7 (by omega) (by omega)
  rcases Nat.lt_or_ge S 2830 with h | h
  · exact al_at r38_8 (by omega) (by omega)
  rcases Nat.lt_or_ge S 3140 with h | h
  · exact al_at r38_9 (by omega) (by omega)
  rcases Nat.lt_or_ge S 3450 with h | h
  · exact al_at r38_10 (by omega) (by omega)
  rcases Nat.lt_or_ge S 3760 with h | h
  · exact al_at r38_11 (by omega) (by omega)
  rcases Nat.lt_or_ge S 4070 with h | h
  · exact al_at r38_12 (by omega) (by omega)
  rcases Nat.lt_or_ge S 4380 with h | h
  · exact al_at r38_13 (by omega) (by omega)
  rcases Nat.lt_or_ge S 4690 with h | h
  · exact al_at r38_14 (by omega) (by omega)
  exact al_at r38_15 (by omega) (by omega)
end Go.Proofs.Ytnphcnhefgjpjaa.Circ
