/- The circles of some numbers of parts, reckoned size by size. Plain. -/
import Derived.Test.YtnphcnhefgjpjaaRndK
namespace Go.Proofs.Ytnphcnhefgjpjaa.Circ
set_option maxRecDepth 100000

def cs39 : List (Nat × Nat × Nat) := [(1, 20717, 10494), (2, 28911, 4428), (3, 34927, 3446), (4, 39766, 2946), (5, 43820, 2633), (6, 47291, 2416), (7, 50300, 2256), (8, 52926, 2133), (9, 55224, 2036), (10, 57233, 1958), (11, 58982, 1894), (12, 60495, 1843), (13, 61788, 1800), (14, 62875, 1766), (15, 63767, 1739), (16, 64472, 1717), (17, 64995, 1701), (18, 65342, 1689), (19, 65514, 1683), (20, 65514, 1680), (21, 65342, 1683), (22, 64995, 1689), (23, 64472, 1701), (24, 63767, 1717), (25, 62875, 1739), (26, 61788, 1766), (27, 60495, 1800), (28, 58982, 1843), (29, 57233, 1894), (30, 55224, 1958), (31, 52926, 2036), (32, 50300, 2133), (33, 47291, 2256), (34, 43820, 2416), (35, 39766, 2633), (36, 34927, 2946), (37, 28911, 3446), (38, 20717, 4428), (39, 0, 10494)]
theorem r39_0 : al (chk 39 442242 cs39) 291 40 = true := by kernel_rfl
theorem r39_1 : al (chk 39 442242 cs39) 292 331 = true := by kernel_rfl
theorem r39_2 : al (chk 39 442242 cs39) 292 623 = true := by kernel_rfl
theorem r39_3 : al (chk 39 442242 cs39) 292 915 = true := by kernel_rfl
theorem r39_4 : al (chk 39 442242 cs39) 291 1207 = true := by kernel_rfl
theorem r39_5 : al (chk 39 442242 cs39) 292 1498 = true := by kernel_rfl
theorem r39_6 : al (chk 39 442242 cs39) 292 1790 = true := by kernel_rfl
theorem r39_7 : al (chk 39 442242 cs39) 292 2082 = true := by kernel_rfl
theorem r39_8 : al (chk 39 442242 cs39) 291 2374 = true := by kernel_rfl
theorem r39_9 : al (chk 39 442242 cs39) 292 2665 = true := by kernel_rfl
theorem r39_10 : al (chk 39 442242 cs39) 292 2957 = true := by kernel_rfl
theorem r39_11 : al (chk 39 442242 cs39) 292 3249 = true := by kernel_rfl
theorem r39_12 : al (chk 39 442242 cs39) 291 3541 = true := by kernel_rfl
theorem r39_13 : al (chk 39 442242 cs39) 292 3832 = true := by kernel_rfl
theorem r39_14 : al (chk 39 442242 cs39) 292 4124 = true := by kernel_rfl
theorem r39_15 : al (chk 39 442242 cs39) 292 4416 = true := by kernel_rfl
theorem r39_16 : al (chk 39 442242 cs39) 292 4708 = true := by kernel_rfl
theorem r39 : ∀ S, 40 ≤ S → S < 5000 → chk 39 442242 cs39 S = true := fun S h1 h2 => by
  rcases Nat.lt_or_ge S 331 with h | h
  · exact al_at r39_0 (by omega) (by omega)
  rcases Nat.lt_or_ge S 623 with h | h
  · exact al_at r39_1 (by omega) (by omega)
  rcases Nat.lt_or_ge S 915 with h | h
  · exact al_at r39_2 (by omega) (by omega)
  rcases Nat.lt_or_ge S 1207 with h | h
  · exact al_at r39_3 (by omega) (by omega)
  rcases Nat.lt_or_ge S 1498 with h | h
  · exact al_at r39_4 (by omega) (by omega)
  rcases Nat.lt_or_ge S 1790 with h | h
  · exact al_at r39_5 (by omega) (by omega)
  rcases Nat.lt_or_ge S 2082 with h | h
  · exact al_at r39_6 (by omega) (by omega)
  rcases Nat.lt_or_ge S 2374 with h | h
  · exact al_at r39_7 (by omega) (by omega)
  rcases Nat.lt_or_ge S 2665 with h | h
  · exact al_at r39_8 (by omega) (by omega)
  rcases Nat.lt_or_ge S 2957 with h | h
  · exact al_at r39_9 (by omega) (by omega)
  rcases Nat.lt_or_ge S 3249 with h | h
  · exact al_at r39_10 (by omega) (by omega)
  rcases Nat.lt_or_ge S 3541 with h | h
  · exact al_at r39_11 (by omega) (by omega)
  rcases Nat.lt_or_ge S 3832 with h | h
  · exact al_at r39_12 (by omega) (by omega)
  rcases Nat.lt_or_ge S 4124 with h | h
  · exact al_at r39_13 (by omega) (by omega)
  rcases Nat.lt_or_ge S 4416 with h | h
  · exact al_at r39_14 (by omega) (by omega)
  rcases Nat.lt_or_ge S 4708 with h | h
  · exact al_at r39_15 (by omega) (by omega)
  exact al_at r39_16 (by omega) (by omega)
def cs40 : List (Nat × Nat × Nat) := [(1, 20464, 10362), (2, 28566, 4370), (3, 34523, 3399), (4, 39322, 2906), (5, 43348, 2595), (6, 46802, 2381), (7, 49803, 2222), (8, 52429, 2100), (9, 54733, 2003), (10, 56756, 1925), (11, 58526, 1862), (12, 60065, 1810), (13, 61391, 1767), (14, 62517, 1732), (15, 63455, 1704), (16, 64212, 1682), (17, 64795, 1664), (18, 65207, 1651), (19, 65454, 1643), (20, 65536, 1639), (21, 65454, 1639), (22, 65207, 1643), (23, 64795, 1651), (24, 64212, 1664), (25, 63455, 1682), (26, 62517, 1704), (27, 61391, 1732), (28, 60065, 1767), (29, 58526, 1810), (30, 56756, 1862), (31, 54733, 1925), (32, 52429, 2003), (33, 49803, 2100), (34, 46802, 2222), (35, 43348, 2381), (36, 39322, 2595), (37, 34523, 2906), (38, 28566, 3399), (39, 20464, 4370), (40, 0, 10362)]
theorem r40_0 : al (chk 40 442452 cs40) 291 40 = true := by kernel_rfl
theorem r40_1 : al (chk 40 442452 cs40) 292 331 = true := by kernel_rfl
theorem r40_2 : al (chk 40 442452 cs40) 292 623 = true := by kernel_rfl
theorem r40_3 : al (chk 40 442452 cs40) 292 915 = true := by kernel_rfl
theorem r40_4 : al (chk 40 442452 cs40) 291 1207 = true := by kernel_rfl
theorem r40_5 : al (chk 40 442452 cs40) 292 1498 = true := by kernel_rfl
theorem r40_6 : al (chk 40 442452 cs40) 292 1790 = true := by kernel_rfl
theorem r40_7 : al (chk 40 442452 cs40) 292 2082 = true := by kernel_rfl
theorem r40_8 : al (chk 40 442452 cs40) 291 2374 = true := by kernel_rfl
theorem r40_9 : al (chk 40 442452 cs40) 292 2665 = true := by kernel_rfl
theorem r40_10 : al (chk 40 442452 cs40) 292 2957 = true := by kernel_rfl
theorem r40_11 : al (chk 40 442452 cs40) 292 3249 = true := by kernel_rfl
theorem r40_12 : al (chk 40 442452 cs40) 291 3541 = true := by kernel_rfl
theorem r40_13 : al (chk 40 442452 cs40) 292 3832 = true := by kernel_rfl
theorem r40_14 : al (chk 40 442452 cs40) 292 4124 = true := by kernel_rfl
theorem r40_15 : al (chk 40 442452 cs40) 292 4416 = true := by kernel_rfl
theorem r40_16 : al (chk 40 442452 cs40) 292 4708 = true := by kernel_rfl
theorem r40 : ∀ S, 40 ≤ S → S < 5000 → chk 40 442452 cs40 S = true := fun S h1 h2 => by
  rcases Nat.lt_or_ge S 331 with h | h
  · exact al_at r40_0 (by omega) (by omega)
  rcases Nat.lt_or_ge S 623 with h | h
  · exact al_at r40_1 (by omega) (by omega)
  rcases Nat.lt_or_ge S 915 with h | h
  · exact al_at r40_2 (by omega) (by omega)
  rcases Nat.lt_or_ge S 1207 with h | h
  · exact al_at r40_3 (by omega) (by omega)
  rcases Nat.lt_or_ge S 1498 with h | h
  · exact al_at r40_4 (by omega) (by omega)
  rcases Nat.lt_or_ge S 1790 with h | h
  · exact al_at r40_5 (by omega) (by omega)
  rcases Nat.lt_or_ge S 2082 with h | h
  · exact al_at r40_6 (by omega) (by omega)
  rcases Nat.lt_or_ge S 2374 with h | h
  · exact al_at r40_7 (by omega) (by omega)
  rcases Nat.lt_or_ge S 2665 with h | h
  · exact al_at r40_8 (by omega) (by omega)
  rcases Nat.lt_or_ge S 2957 with h | h
  · exact al_at r40_9 (by omega) (by omega)
  rcases Nat.lt_or_ge S 3249 with h | h
  · exact al_at r40_10 (by omega) (by omega)
  rcases Nat.lt_or_ge S 3541 with h | h
  · exact al_at r40_11 (by omega) (by omega)
  rcases Nat.lt_or_ge S 3832 with h | h
  · exact al_at r40_12 (by omega) (by omega)
  rcases Nat.lt_or_ge S 4124 with h | h
  · exact al_at r40_13 (by omega) (by omega)
  rcases Nat.lt_or_ge S 4416 with h | h
  · exact al_at r40_14 (by omega) (by omega)
  rcases Nat.lt_or_ge S 4708 with h | h
  · exact al_at r40_15 (by omega) (by omega)
  exact al_at r40_16 (by omega) (by omega)
end Go.Proofs.Ytnphcnhefgjpjaa.Circ
