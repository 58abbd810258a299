/- The circles of some numbers of parts, reckoned size by size. Plain. -/
import Derived.Test.YtnphcnhefgjpjaaRndK
namespace Go.Proofs.Ytnphcnhefgjpjaa.Circ
set_option maxRecDepth 100000

def cs2 : List (Nat × Nat × Nat) := [(1, 65536, 46341), (2, 0, 46341)]
theorem r2_0 : al (chk 2 115853 cs2) 4960 40 = true := by kernel_rfl
theorem r2 : ∀ S, 40 ≤ S → S < 5000 → chk 2 115853 cs2 S = true := fun S h1 h2 => by
  exact al_at r2_0 (by omega) (by omega)
def cs3 : List (Nat × Nat × Nat) := [(1, 61788, 37837), (2, 61788, 21845), (3, 0, 37837)]
theorem r3_0 : al (chk 3 218866 cs3) 2480 40 = true := by kernel_rfl
theorem r3_1 : al (chk 3 218866 cs3) 2480 2520 = true := by kernel_rfl
theorem r3 : ∀ S, 40 ≤ S → S < 5000 → chk 3 218866 cs3 S = true := fun S h1 h2 => by
  rcases Nat.lt_or_ge S 2520 with h | h
  · exact al_at r3_0 (by omega) (by omega)
  exact al_at r3_1 (by omega) (by omega)
def cs4 : List (Nat × Nat × Nat) := [(1, 56756, 32768), (2, 65536, 16962), (3, 56756, 16962), (4, 0, 32768)]
theorem r4_0 : al (chk 4 275179 cs4) 2480 40 = true := by kernel_rfl
theorem r4_1 : al (chk 4 275179 cs4) 2480 2520 = true := by kernel_rfl
theorem r4 : ∀ S, 40 ≤ S → S < 5000 → chk 4 275179 cs4 S = true := fun S h1 h2 => by
  rcases Nat.lt_or_ge S 2520 with h | h
  · exact al_at r4_0 (by omega) (by omega)
  exact al_at r4_1 (by omega) (by omega)
def cs5 : List (Nat × Nat × Nat) := [(1, 52429, 29309), (2, 64212, 14370), (3, 64212, 13107), (4, 52429, 14370), (5, 0, 29309)]
theorem r5_0 : al (chk 5 308509 cs5) 1653 40 = true := by kernel_rfl
theorem r5_1 : al (chk 5 308509 cs5) 1653 1693 = true := by kernel_rfl
theorem r5_2 : al (chk 5 308509 cs5) 1654 3346 = true := by kernel_rfl
theorem r5 : ∀ S, 40 ≤ S → S < 5000 → chk 5 308509 cs5 S = true := fun S h1 h2 => by
  rcases Nat.lt_or_ge S 1693 with h | h
  · exact al_at r5_0 (by omega) (by omega)
  rcases Nat.lt_or_ge S 3346 with h | h
  · exact al_at r5_1 (by omega) (by omega)
  exact al_at r5_2 (by omega) (by omega)
def cs6 : List (Nat × Nat × Nat) := [(1, 48848, 26755), (2, 61788, 12695), (3, 65536, 11082), (4, 61788, 11082), (5, 48848, 12695), (6, 0, 26755)]
theorem r6_0 : al (chk 6 343434 cs6) 1653 40 = true := by kernel_rfl
theorem r6_1 : al (chk 6 343434 cs6) 1653 1693 = true := by kernel_rfl
theorem r6_2 : al (chk 6 343434 cs6) 1654 3346 = true := by kernel_rfl
theorem r6 : ∀ S, 40 ≤ S → S < 5000 → chk 6 343434 cs6 S = true := fun S h1 h2 => by
  rcases Nat.lt_or_ge S 1693 with h | h
  · exact al_at r6_0 (by omega) (by omega)
  rcases Nat.lt_or_ge S 3346 with h | h
  · exact al_at r6_1 (by omega) (by omega)
  exact al_at r6_2 (by omega) (by omega)
def cs7 : List (Nat × Nat × Nat) := [(1, 45866, 24770), (2, 59212, 11497), (3, 64864, 9780), (4, 64864, 9362), (5, 59212, 9780), (6, 45866, 11497), (7, 0, 24770)]
theorem r7_0 : al (chk 7 369348 cs7) 1653 40 = true := by kernel_rfl
theorem r7_1 : al (chk 7 369348 cs7) 1653 1693 = true := by kernel_rfl
theorem r7_2 : al (chk 7 369348 cs7) 1654 3346 = true := by kernel_rfl
theorem r7 : ∀ S, 40 ≤ S → S < 5000 → chk 7 369348 cs7 S = true := fun S h1 h2 => by
  rcases Nat.lt_or_ge S 1693 with h | h
  · exact al_at r7_0 (by omega) (by omega)
  rcases Nat.lt_or_ge S 3346 with h | h
  · exact al_at r7_1 (by omega) (by omega)
  exact al_at r7_2 (by omega) (by omega)
def cs8 : List (Nat × Nat × Nat) := [(1, 43348, 23170), (2, 56756, 10585), (3, 63455, 8850), (4, 65536, 8258), (5, 63455, 8258), (6, 56756, 8850), (7, 43348, 10585), (8, 0, 23170)]
theorem r8_0 : al (chk 8 387298 cs8) 1240 40 = true := by kernel_rfl
theorem r8_1 : al (chk 8 387298 cs8) 1240 1280 = true := by kernel_rfl
theorem r8_2 : al (chk 8 387298 cs8) 1240 2520 = true := by kernel_rfl
theorem r8_3 : al (chk 8 387298 cs8) 1240 3760 = true := by kernel_rfl
theorem r8 : ∀ S, 40 ≤ S → S < 5000 → chk 8 387298 cs8 S = true := fun S h1 h2 => by
  rcases Nat.lt_or_ge S 1280 with h | h
  · exact al_at r8_0 (by omega) (by omega)
  rcases Nat.lt_or_ge S 2520 with h | h
  · exact al_at r8_1 (by omega) (by omega)
  rcases Nat.lt_or_ge S 3760 with h | h
  · exact al_at r8_2 (by omega) (by omega)
  exact al_at r8_3 (by omega) (by omega)
def cs9 : List (Nat × Nat × Nat) := [(1, 41192, 21845), (2, 54492, 9861), (3, 61788, 8144), (4, 65130, 7471), (5, 65130, 7282), (6, 61788, 7471), (7, 54492, 8144), (8, 41192, 9861), (9, 0, 21845)]
theorem r9_0 : al (chk 9 400125 cs9) 1240 40 = true := by kernel_rfl
theorem r9_1 : al (chk 9 400125 cs9) 1240 1280 = true := by kernel_rfl
theorem r9_2 : al (chk 9 400125 cs9) 1240 2520 = true := by kernel_rfl
theorem r9_3 : al (chk 9 400125 cs9) 1240 3760 = true := by kernel_rfl
theorem r9 : ∀ S, 40 ≤ S → S < 5000 → chk 9 400125 cs9 S = true := fun S h1 h2 => by
  rcases Nat.lt_or_ge S 1280 with h | h
  · exact al_at r9_0 (by omega) (by omega)
  rcases Nat.lt_or_ge S 2520 with h | h
  · exact al_at r9_1 (by omega) (by omega)
  rcases Nat.lt_or_ge S 3760 with h | h
  · exact al_at r9_2 (by omega) (by omega)
  exact al_at r9_3 (by omega) (by omega)
def cs10 : List (Nat × Nat × Nat) := [(1, 39322, 20724), (2, 52429, 9268), (3, 60065, 7585), (4, 64212, 6874), (5, 65536, 6587), (6, 64212, 6587), (7, 60065, 6874), (8, 52429, 7585), (9, 39322, 9268), (10, 0, 20724)]
theorem r10_0 : al (chk 10 409360 cs10) 992 40 = true := by kernel_rfl
theorem r10_1 : al (chk 10 409360 cs10) 992 1032 = true := by kernel_rfl
theorem r10_2 : al (chk 10 409360 cs10) 992 2024 = true := by kernel_rfl
theorem r10_3 : al (chk 10 409360 cs10) 992 3016 = true := by kernel_rfl
theorem r10_4 : al (chk 10 409360 cs10) 992 4008 = true := by kernel_rfl
theorem r10 : ∀ S, 40 ≤ S → S < 5000 → chk 10 409360 cs10 S = true := fun S h1 h2 => by
  rcases Nat.lt_or_ge S 1032 with h | h
  · exact al_at r10_0 (by omega) (by omega)
  rcases Nat.lt_or_ge S 2024 with h | h
  · exact al_at r10_1 (by omega) (by omega)
  rcases Nat.lt_or_ge S 3016 with h | h
  · exact al_at r10_2 (by omega) (by omega)
  rcases Nat.lt_or_ge S 4008 with h | h
  · exact al_at r10_3 (by omega) (by omega)
  exact al_at r10_4 (by omega) (by omega)
def cs11 : List (Nat × Nat × Nat) := [(1, 37681, 19760), (2, 50554, 8771), (3, 58374, 7126), (4, 63052, 6401), (5, 65265, 6060), (6, 65265, 5958), (7, 63052, 6060), (8, 58374, 6401), (9, 50554, 7126), (10, 37681, 8771), (11, 0, 19760)]
theorem r11_0 : al (chk 11 416332 cs11) 992 40 = true := by kernel_rfl
theorem r11_1 : al (chk 11 416332 cs11) 992 1032 = true := by kernel_rfl
theorem r11_2 : al (chk 11 416332 cs11) 992 2024 = true := by kernel_rfl
theorem r11_3 : al (chk 11 416332 cs11) 992 3016 = true := by kernel_rfl
theorem r11_4 : al (chk 11 416332 cs11) 992 4008 = true := by kernel_rfl
theorem r11 : ∀ S, 40 ≤ S → S < 5000 → chk 11 416332 cs11 S = true := fun S h1 h2 => by
  rcases Nat.lt_or_ge S 1032 with h | h
  · exact al_at r11_0 (by omega) (by omega)
  rcases Nat.lt_or_ge S 2024 with h | h
  · exact al_at r11_1 (by omega) (by omega)
  rcases Nat.lt_or_ge S 3016 with h | h
  · exact al_at r11_2 (by omega) (by omega)
  rcases Nat.lt_or_ge S 4008 with h | h
  · exact al_at r11_3 (by omega) (by omega)
  exact al_at r11_4 (by omega) (by omega)
def cs12 : List (Nat × Nat × Nat) := [(1, 36226, 18918), (2, 48848, 8346), (3, 56756, 6742), (4, 61788, 6013), (5, 64619, 5642), (6, 65536, 5481), (7, 64619, 5481), (8, 61788, 5642), (9, 56756, 6013), (10, 48848, 6742), (11, 36226, 8346), (12, 0, 18918)]
theorem r12_0 : al (chk 12 421663 cs12) 992 40 = true := by kernel_rfl
theorem r12_1 : al (chk 12 421663 cs12) 992 1032 = true := by kernel_rfl
theorem r12_2 : al (chk 12 421663 cs12) 992 2024 = true := by kernel_rfl
theorem r12_3 : al (chk 12 421663 cs12) 992 3016 = true := by kernel_rfl
theorem r12_4 : al (chk 12 421663 cs12) 992 4008 = true := by kernel_rfl
theorem r12 : ∀ S, 40 ≤ S → S < 5000 → chk 12 421663 cs12 S = true := fun S h1 h2 => by
  rcases Nat.lt_or_ge S 1032 with h | h
  · exact al_at r12_0 (by omega) (by omega)
  rcases Nat.lt_or_ge S 2024 with h | h
  · exact al_at r12_1 (by omega) (by omega)
  rcases Nat.lt_or_ge S 3016 with h | h
  · exact al_at r12_2 (by omega) (by omega)
  rcases Nat.lt_or_ge S 4008 with h | h
  · exact al_at r12_3 (by omega) (by omega)
  exact al_at r12_4 (by omega) (by omega)
def cs13 : List (Nat × Nat × Nat) := [(1, 34927, 18177), (2, 47291, 7977), (3, 55224, 6415), (4, 60495, 5689), (5, 63767, 5300), (6, 65342, 5102), (7, 65342, 5041), (8, 63767, 5102), (9, 60495, 5300), (10, 55224, 5689), (11, 47291, 6415), (12, 34927, 7977), (13, 0, 18177)]
theorem r13_0 : al (chk 13 425614 cs13) 826 40 = true := by kernel_rfl
theorem r13_1 : al (chk 13 425614 cs13) 827 866 = true := by kernel_rfl
theorem r13_2 : al (chk 13 425614 cs13) 827 1693 = true := by kernel_rfl
theorem r13_3 : al (chk 13 425614 cs13) 826 2520 = true := by kernel_rfl
theorem r13_4 : al (chk 13 425614 cs13) 827 3346 = true := by kernel_rfl
theorem r13_5 : al (chk 13 425614 cs13) 827 4173 = true := by kernel_rfl
theorem r13 : ∀ S, 40 ≤ S → S < 5000 → chk 13 425614 cs13 S = true := fun S h1 h2 => by
  rcases Nat.lt_or_ge S 866 with h | h
  · exact al_at r13_0 (by omega) (by omega)
  rcases Nat.lt_or_ge S 1693 with h | h
  · exact al_at r13_1 (by omega) (by omega)
  rcases Nat.lt_or_ge S 2520 with h | h
  · exact al_at r13_2 (by omega) (by omega)
  rcases Nat.lt_or_ge S 3346 with h | h
  · exact al_at r13_3 (by omega) (by omega)
  rcases Nat.lt_or_ge S 4173 with h | h
  · exact al_at r13_4 (by omega) (by omega)
  exact al_at r13_5 (by omega) (by omega)
def cs14 : List (Nat × Nat × Nat) := [(1, 33756, 17515), (2, 45866, 7654), (3, 53782, 6130), (4, 59212, 5411), (5, 62804, 5014), (6, 64864, 4793), (7, 65536, 4693), (8, 64864, 4693), (9, 62804, 4793), (10, 59212, 5014), (11, 53782, 5411), (12, 45866, 6130), (13, 33756, 7654), (14, 0, 17515)]
theorem r14_0 : al (chk 14 428704 cs14) 826 40 = true := by kernel_rfl
theorem r14_1 : al (chk 14 428704 cs14) 827 866 = true := by kernel_rfl
theorem r14_2 : al (chk 14 428704 cs14) 827 1693 = true := by kernel_rfl
theorem r14_3 : al (chk 14 428704 cs14) 826 2520 = true := by kernel_rfl
theorem r14_4 : al (chk 14 428704 cs14) 827 3346 = true := by kernel_rfl
theorem r14_5 : al (chk 14 428704 cs14) 827 4173 = true := by kernel_rfl
theorem r14 : ∀ S, 40 ≤ S → S < 5000 → chk 14 428704 cs14 S = true := fun S h1 h2 => by
  rcases Nat.lt_or_ge S 866 with h | h
  · exact al_at r14_0 (by omega) (by omega)
  rcases Nat.lt_or_ge S 1693 with h | h
  · exact al_at r14_1 (by omega) (by omega)
  rcases Nat.lt_or_ge S 2520 with h | h
  · exact al_at r14_2 (by omega) (by omega)
  rcases Nat.lt_or_ge S 3346 with h | h
  · exact al_at r14_3 (by omega) (by omega)
  rcases Nat.lt_or_ge S 4173 with h | h
  · exact al_at r14_4 (by omega) (by omega)
  exact al_at r14_5 (by omega) (by omega)
end Go.Proofs.Ytnphcnhefgjpjaa.Circ
