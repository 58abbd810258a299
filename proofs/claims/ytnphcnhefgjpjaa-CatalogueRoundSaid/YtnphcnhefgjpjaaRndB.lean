/- The circles of some numbers of parts, reckoned size by size. Plain. -/
import Derived.Test.YtnphcnhefgjpjaaRndK
namespace Go.Proofs.Ytnphcnhefgjpjaa.Circ
set_option maxRecDepth 100000

def cs15 : List (Nat × Nat × Nat) := [(1, 32695, 16921), (2, 44556, 7366), (3, 52429, 5881), (4, 57962, 5171), (5, 61788, 4770), (6, 64212, 4534), (7, 65390, 4409), (8, 65390, 4369), (9, 64212, 4409), (10, 61788, 4534), (11, 57962, 4770), (12, 52429, 5171), (13, 44556, 5881), (14, 32695, 7366), (15, 0, 16921)]
theorem r15_0 : al (chk 15 431118 cs15) 708 40 = true := by kernel_rfl
theorem r15_1 : al (chk 15 431118 cs15) 709 748 = true := by kernel_rfl
theorem r15_2 : al (chk 15 431118 cs15) 708 1457 = true := by kernel_rfl
theorem r15_3 : al (chk 15 431118 cs15) 709 2165 = true := by kernel_rfl
theorem r15_4 : al (chk 15 431118 cs15) 708 2874 = true := by kernel_rfl
theorem r15_5 : al (chk 15 431118 cs15) 709 3582 = true := by kernel_rfl
theorem r15_6 : al (chk 15 431118 cs15) 709 4291 = true := by kernel_rfl
theorem r15 : ∀ S, 40 ≤ S → S < 5000 → chk 15 431118 cs15 S = true := fun S h1 h2 => by
  rcases Nat.lt_or_ge S 748 with h | h
  · exact al_at r15_0 (by omega) (by omega)
  rcases Nat.lt_or_ge S 1457 with h | h
  · exact al_at r15_1 (by omega) (by omega)
  rcases Nat.lt_or_ge S 2165 with h | h
  · exact al_at r15_2 (by omega) (by omega)
  rcases Nat.lt_or_ge S 2874 with h | h
  · exact al_at r15_3 (by omega) (by omega)
  rcases Nat.lt_or_ge S 3582 with h | h
  · exact al_at r15_4 (by omega) (by omega)
  rcases Nat.lt_or_ge S 4291 with h | h
  · exact al_at r15_5 (by omega) (by omega)
  exact al_at r15_6 (by omega) (by omega)
def cs16 : List (Nat × Nat × Nat) := [(1, 31727, 16384), (2, 43348, 7109), (3, 51159, 5660), (4, 56756, 4961), (5, 60753, 4558), (6, 63455, 4313), (7, 65022, 4170), (8, 65536, 4104), (9, 65022, 4104), (10, 63455, 4170), (11, 60753, 4313), (12, 56756, 4558), (13, 51159, 4961), (14, 43348, 5660), (15, 31727, 7109), (16, 0, 16384)]
theorem r16_0 : al (chk 16 432957 cs16) 708 40 = true := by kernel_rfl
theorem r16_1 : al (chk 16 432957 cs16) 709 748 = true := by kernel_rfl
theorem r16_2 : al (chk 16 432957 cs16) 708 1457 = true := by kernel_rfl
theorem r16_3 : al (chk 16 432957 cs16) 709 2165 = true := by kernel_rfl
theorem r16_4 : al (chk 16 432957 cs16) 708 2874 = true := by kernel_rfl
theorem r16_5 : al (chk 16 432957 cs16) 709 3582 = true := by kernel_rfl
theorem r16_6 : al (chk 16 432957 cs16) 709 4291 = true := by kernel_rfl
theorem r16 : ∀ S, 40 ≤ S → S < 5000 → chk 16 432957 cs16 S = true := fun S h1 h2 => by
  rcases Nat.lt_or_ge S 748 with h | h
  · exact al_at r16_0 (by omega) (by omega)
  rcases Nat.lt_or_ge S 1457 with h | h
  · exact al_at r16_1 (by omega) (by omega)
  rcases Nat.lt_or_ge S 2165 with h | h
  · exact al_at r16_2 (by omega) (by omega)
  rcases Nat.lt_or_ge S 2874 with h | h
  · exact al_at r16_3 (by omega) (by omega)
  rcases Nat.lt_or_ge S 3582 with h | h
  · exact al_at r16_4 (by omega) (by omega)
  rcases Nat.lt_or_ge S 4291 with h | h
  · exact al_at r16_5 (by omega) (by omega)
  exact al_at r16_6 (by omega) (by omega)
def cs17 : List (Nat × Nat × Nat) := [(1, 30840, 15895), (2, 42230, 6877), (3, 49967, 5461), (4, 55598, 4774), (5, 59722, 4372), (6, 62637, 4121), (7, 64507, 3967), (8, 65423, 3882), (9, 65423, 3855), (10, 64507, 3882), (11, 62637, 3967), (12, 59722, 4121), (13, 55598, 4372), (14, 49967, 4774), (15, 42230, 5461), (16, 30840, 6877), (17, 0, 15895)]
theorem r17_0 : al (chk 17 434491 cs17) 620 40 = true := by kernel_rfl
theorem r17_1 : al (chk 17 434491 cs17) 620 660 = true := by kernel_rfl
theorem r17_2 : al (chk 17 434491 cs17) 620 1280 = true := by kernel_rfl
theorem r17_3 : al (chk 17 434491 cs17) 620 1900 = true := by kernel_rfl
theorem r17_4 : al (chk 17 434491 cs17) 620 2520 = true := by kernel_rfl
theorem r17_5 : al (chk 17 434491 cs17) 620 3140 = true := by kernel_rfl
theorem r17_6 : al (chk 17 434491 cs17) 620 3760 = true := by kernel_rfl
theorem r17_7 : al (chk 17 434491 cs17) 620 4380 = true := by kernel_rfl
theorem r17 : ∀ S, 40 ≤ S → S < 5000 → chk 17 434491 cs17 S = true := fun S h1 h2 => by
  rcases Nat.lt_or_ge S 660 with h | h
  · exact al_at r17_0 (by omega) (by omega)
  rcases Nat.lt_or_ge S 1280 with h | h
  · exact al_at r17_1 (by omega) (by omega)
  rcases Nat.lt_or_ge S 1900 with h | h
  · exact al_at r17_2 (by omega) (by omega)
  rcases Nat.lt_or_ge S 2520 with h | h
  · exact al_at r17_3 (by omega) (by omega)
  rcases Nat.lt_or_ge S 3140 with h | h
  · exact al_at r17_4 (by omega) (by omega)
  rcases Nat.lt_or_ge S 3760 with h | h
  · exact al_at r17_5 (by omega) (by omega)
  rcases Nat.lt_or_ge S 4380 with h | h
  · exact al_at r17_6 (by omega) (by omega)
  exact al_at r17_7 (by omega) (by omega)
def cs18 : List (Nat × Nat × Nat) := [(1, 30024, 15447), (2, 41192, 6666), (3, 48848, 5283), (4, 54492, 4606), (5, 58708, 4207), (6, 61788, 3953), (7, 63897, 3791), (8, 65130, 3693), (9, 65536, 3647), (10, 65130, 3647), (11, 63897, 3693), (12, 61788, 3791), (13, 58708, 3953), (14, 54492, 4207), (15, 48848, 4606), (16, 41192, 5283), (17, 30024, 6666), (18, 0, 15447)]
theorem r18_0 : al (chk 18 435557 cs18) 620 40 = true := by kernel_rfl
theorem r18_1 : al (chk 18 435557 cs18) 620 660 = true := by kernel_rfl
theorem r18_2 : al (chk 18 435557 cs18) 620 1280 = true := by kernel_rfl
theorem r18_3 : al (chk 18 435557 cs18) 620 1900 = true := by kernel_rfl
theorem r18_4 : al (chk 18 435557 cs18) 620 2520 = true := by kernel_rfl
theorem r18_5 : al (chk 18 435557 cs18) 620 3140 = true := by kernel_rfl
theorem r18_6 : al (chk 18 435557 cs18) 620 3760 = true := by kernel_rfl
theorem r18_7 : al (chk 18 435557 cs18) 620 4380 = true := by kernel_rfl
theorem r18 : ∀ S, 40 ≤ S → S < 5000 → chk 18 435557 cs18 S = true := fun S h1 h2 => by
  rcases Nat.lt_or_ge S 660 with h | h
  · exact al_at r18_0 (by omega) (by omega)
  rcases Nat.lt_or_ge S 1280 with h | h
  · exact al_at r18_1 (by omega) (by omega)
  rcases Nat.lt_or_ge S 1900 with h | h
  · exact al_at r18_2 (by omega) (by omega)
  rcases Nat.lt_or_ge S 2520 with h | h
  · exact al_at r18_3 (by omega) (by omega)
  rcases Nat.lt_or_ge S 3140 with h | h
  · exact al_at r18_4 (by omega) (by omega)
  rcases Nat.lt_or_ge S 3760 with h | h
  · exact al_at r18_5 (by omega) (by omega)
  rcases Nat.lt_or_ge S 4380 with h | h
  · exact al_at r18_6 (by omega) (by omega)
  exact al_at r18_7 (by omega) (by omega)
def cs19 : List (Nat × Nat × Nat) := [(1, 29268, 15035), (2, 40225, 6474), (3, 47794, 5121), (4, 53436, 4456), (5, 57717, 4059), (6, 60926, 3804), (7, 63226, 3636), (8, 64714, 3529), (9, 65445, 3469), (10, 65445, 3449), (11, 64714, 3469), (12, 63226, 3529), (13, 60926, 3636), (14, 57717, 3804), (15, 53436, 4059), (16, 47794, 4456), (17, 40225, 5121), (18, 29268, 6474), (19, 0, 15035)]
theorem r19_0 : al (chk 19 436572 cs19) 620 40 = true := by kernel_rfl
theorem r19_1 : al (chk 19 436572 cs19) 620 660 = true := by kernel_rfl
theorem r19_2 : al (chk 19 436572 cs19) 620 1280 = true := by kernel_rfl
theorem r19_3 : al (chk 19 436572 cs19) 620 1900 = true := by kernel_rfl
theorem r19_4 : al (chk 19 436572 cs19) 620 2520 = true := by kernel_rfl
theorem r19_5 : al (chk 19 436572 cs19) 620 3140 = true := by kernel_rfl
theorem r19_6 : al (chk 19 436572 cs19) 620 3760 = true := by kernel_rfl
theorem r19_7 : al (chk 19 436572 cs19) 620 4380 = true := by kernel_rfl
theorem r19 : ∀ S, 40 ≤ S → S < 5000 → chk 19 436572 cs19 S = true := fun S h1 h2 => by
  rcases Nat.lt_or_ge S 660 with h | h
  · exact al_at r19_0 (by omega) (by omega)
  rcases Nat.lt_or_ge S 1280 with h | h
  · exact al_at r19_1 (by omega) (by omega)
  rcases Nat.lt_or_ge S 1900 with h | h
  · exact al_at r19_2 (by omega) (by omega)
  rcases Nat.lt_or_ge S 2520 with h | h
  · exact al_at r19_3 (by omega) (by omega)
  rcases Nat.lt_or_ge S 3140 with h | h
  · exact al_at r19_4 (by omega) (by omega)
  rcases Nat.lt_or_ge S 3760 with h | h
  · exact al_at r19_5 (by omega) (by omega)
  rcases Nat.lt_or_ge S 4380 with h | h
  · exact al_at r19_6 (by omega) (by omega)
  exact al_at r19_7 (by omega) (by omega)
def cs20 : List (Nat × Nat × Nat) := [(1, 28566, 14654), (2, 39322, 6298), (3, 46802, 4972), (4, 52429, 4319), (5, 56756, 3927), (6, 60065, 3671), (7, 62517, 3499), (8, 64212, 3385), (9, 65207, 3314), (10, 65536, 3281), (11, 65207, 3281), (12, 64212, 3314), (13, 62517, 3385), (14, 60065, 3499), (15, 56756, 3671), (16, 52429, 3927), (17, 46802, 4319), (18, 39322, 4972), (19, 28566, 6298), (20, 0, 14654)]
theorem r20_0 : al (chk 20 437178 cs20) 551 40 = true := by kernel_rfl
theorem r20_1 : al (chk 20 437178 cs20) 551 591 = true := by kernel_rfl
theorem r20_2 : al (chk 20 437178 cs20) 551 1142 = true := by kernel_rfl
theorem r20_3 : al (chk 20 437178 cs20) 551 1693 = true := by kernel_rfl
theorem r20_4 : al (chk 20 437178 cs20) 551 2244 = true := by kernel_rfl
theorem r20_5 : al (chk 20 437178 cs20) 551 2795 = true := by kernel_rfl
theorem r20_6 : al (chk 20 437178 cs20) 551 3346 = true := by kernel_rfl
theorem r20_7 : al (chk 20 437178 cs20) 551 3897 = true := by kernel_rfl
theorem r20_8 : al (chk 20 437178 cs20) 552 4448 = true := by kernel_rfl
theorem r20 : ∀ S, 40 ≤ S → S < 5000 → chk 20 437178 cs20 S = true := fun S h1 h2 => by
  rcases Nat.lt_or_ge S 591 with h | h
  · exact al_at r20_0 (by omega) (by omega)
  rcases Nat.lt_or_ge S 1142 with h | h
  · exact al_at r20_1 (by omega) (by omega)
  rcases Nat.lt_or_ge S 1693 with h | h
  · exact al_at r20_2 (by omega) (by omega)
  rcases Nat.lt_or_ge S 2244 with h | h
  · exact al_at r20_3 (by omega) (by omega)
  rcases Nat.lt_or_ge S 2795 with h | h
  · exact al_at r20_4 (by omega) (by omega)
  rcases Nat.lt_or_ge S 3346 with h | h
  · exact al_at r20_5 (by omega) (by omega)
  rcases Nat.lt_or_ge S 3897 with h | h
  · exact al_at r20_6 (by omega) (by omega)
  rcases Nat.lt_or_ge S 4448 with h | h
  · exact al_at r20_7 (by omega) (by omega)
  exact al_at r20_8 (by omega) (by omega)
end Go.Proofs.Ytnphcnhefgjpjaa.Circ
