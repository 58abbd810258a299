/- The circles of some numbers of parts, reckoned size by size. Plain. -/
import Derived.Test.YtnphcnhefgjpjaaRndK
namespace Go.Proofs.Ytnphcnhefgjpjaa.Circ
set_option maxRecDepth 100000

def cs26 : List (Nat × Nat × Nat) := [(1, 25206, 12853), (2, 34927, 5475), (3, 41876, 4293), (4, 47291, 3699), (5, 51657, 3335), (6, 55224, 3088), (7, 58138, 2911), (8, 60495, 2783), (9, 62357, 2687), (10, 63767, 2617), (11, 64756, 2569), (12, 65342, 2538), (13, 65536, 2522), (14, 65342, 2522), (15, 64756, 2538), (16, 63767, 2569), (17, 62357, 2617), (18, 60495, 2687), (19, 58138, 2783), (20, 55224, 2911), (21, 51657, 3088), (22, 47291, 3335), (23, 41876, 3699), (24, 34927, 4293), (25, 25206, 5475), (26, 0, 12853)]
theorem r26_0 : al (chk 26 438748 cs26) 450 40 = true := by kernel_rfl
theorem r26_1 : al (chk 26 438748 cs26) 451 490 = true := by kernel_rfl
theorem r26_2 : al (chk 26 438748 cs26) 451 941 = true := by kernel_rfl
theorem r26_3 : al (chk 26 438748 cs26) 451 1392 = true := by kernel_rfl
theorem r26_4 : al (chk 26 438748 cs26) 451 1843 = true := by kernel_rfl
theorem r26_5 : al (chk 26 438748 cs26) 451 2294 = true := by kernel_rfl
theorem r26_6 : al (chk 26 438748 cs26) 451 2745 = true := by kernel_rfl
theorem r26_7 : al (chk 26 438748 cs26) 451 3196 = true := by kernel_rfl
theorem r26_8 : al (chk 26 438748 cs26) 451 3647 = true := by kernel_rfl
theorem r26_9 : al (chk 26 438748 cs26) 451 4098 = true := by kernel_rfl
theorem r26_10 : al (chk 26 438748 cs26) 451 4549 = true := by kernel_rfl
theorem r26 : ∀ S, 40 ≤ S → S < 5000 → chk 26 438748 cs26 S = true := fun S h1 h2 => by
  rcases Nat.lt_or_ge S 490 with h | h
  · exact al_at r26_0 (by omega) (by omega)
  rcases Nat.lt_or_ge S 941 with h | h
  · exact al_at r26_1 (by omega) (by omega)
  rcases Nat.lt_or_ge S 1392 with h | h
  · exact al_at r26_2 (by omega) (by omega)
  rcases Nat.lt_or_ge S 1843 with h | h
  · exact al_at r26_3 (by omega) (by omega)
  rcases Nat.lt_or_ge S 2294 with h | h
  · exact al_at r26_4 (by omega) (by omega)
  rcases Nat.lt_or_ge S 2745 with h | h
  · exact al_at r26_5 (by omega) (by omega)
  rcases Nat.lt_or_ge S 3196 with h | h
  · exact al_at r26_6 (by omega) (by omega)
  rcases Nat.lt_or_ge S 3647 with h | h
  · exact al_at r26_7 (by omega) (by omega)
  rcases Nat.lt_or_ge S 4098 with h | h
  · exact al_at r26_8 (by omega) (by omega)
  rcases Nat.lt_or_ge S 4549 with h | h
  · exact al_at r26_9 (by omega) (by omega)
  exact al_at r26_10 (by omega) (by omega)
def cs27 : List (Nat × Nat × Nat) := [(1, 24753, 12612), (2, 34327, 5367), (3, 41192, 4204), (4, 46563, 3620), (5, 50915, 3260), (6, 54492, 3015), (7, 57439, 2840), (8, 59851, 2710), (9, 61788, 2613), (10, 63295, 2542), (11, 64402, 2490), (12, 65130, 2454), (13, 65491, 2434), (14, 65491, 2427), (15, 65130, 2434), (16, 64402, 2454), (17, 63295, 2490), (18, 61788, 2542), (19, 59851, 2613), (20, 57439, 2710), (21, 54492, 2840), (22, 50915, 3015), (23, 46563, 3260), (24, 41192, 3620), (25, 34327, 4204), (26, 24753, 5367), (27, 0, 12612)]
theorem r27_0 : al (chk 27 438948 cs27) 413 40 = true := by kernel_rfl
theorem r27_1 : al (chk 27 438948 cs27) 413 453 = true := by kernel_rfl
theorem r27_2 : al (chk 27 438948 cs27) 414 866 = true := by kernel_rfl
theorem r27_3 : al (chk 27 438948 cs27) 413 1280 = true := by kernel_rfl
theorem r27_4 : al (chk 27 438948 cs27) 413 1693 = true := by kernel_rfl
theorem r27_5 : al (chk 27 438948 cs27) 414 2106 = true := by kernel_rfl
theorem r27_6 : al (chk 27 438948 cs27) 413 2520 = true := by kernel_rfl
theorem r27_7 : al (chk 27 438948 cs27) 413 2933 = true := by kernel_rfl
theorem r27_8 : al (chk 27 438948 cs27) 414 3346 = true := by kernel_rfl
theorem r27_9 : al (chk 27 438948 cs27) 413 3760 = true := by kernel_rfl
theorem r27_10 : al (chk 27 438948 cs27) 413 4173 = true := by kernel_rfl
theorem r27_11 : al (chk 27 438948 cs27) 414 4586 = true := by kernel_rfl
theorem r27 : ∀ S, 40 ≤ S → S < 5000 → chk 27 438948 cs27 S = true := fun S h1 h2 => by
  rcases Nat.lt_or_ge S 453 with h | h
  · exact al_at r27_0 (by omega) (by omega)
  rcases Nat.lt_or_ge S 866 with h | h
  · exact al_at r27_1 (by omega) (by omega)
  rcases Nat.lt_or_ge S 1280 with h | h
  · exact al_at r27_2 (by omega) (by omega)
  rcases Nat.lt_or_ge S 1693 with h | h
  · exact al_at r27_3 (by omega) (by omega)
  rcases Nat.lt_or_ge S 2106 with h | h
  · exact al_at r27_4 (by omega) (by omega)
  rcases Nat.lt_or_ge S 2520 with h | h
  · exact al_at r27_5 (by omega) (by omega)
  rcases Nat.lt_or_ge S 2933 with h | h
  · exact al_at r27_6 (by omega) (by omega)
  rcases Nat.lt_or_ge S 3346 with h | h
  · exact al_at r27_7 (by omega) (by omega)
  rcases Nat.lt_or_ge S 3760 with h | h
  · exact al_at r27_8 (by omega) (by omega)
  rcases Nat.lt_or_ge S 4173 with h | h
  · exact al_at r27_9 (by omega) (by omega)
  rcases Nat.lt_or_ge S 4586 with h | h
  · exact al_at r27_10 (by omega) (by omega)
  exact al_at r27_11 (by omega) (by omega)
def cs28 : List (Nat × Nat × Nat) := [(1, 24324, 12385), (2, 33756, 5265), (3, 40540, 4121), (4, 45866, 3545), (5, 50200, 3190), (6, 53782, 2947), (7, 56756, 2773), (8, 59212, 2643), (9, 61214, 2546), (10, 62804, 2472), (11, 64014, 2417), (12, 64864, 2379), (13, 65369, 2354), (14, 65536, 2342), (15, 65369, 2342), (16, 64864, 2354), (17, 64014, 2379), (18, 62804, 2417), (19, 61214, 2472), (20, 59212, 2546), (21, 56756, 2643), (22, 53782, 2773), (23, 50200, 2947), (24, 45866, 3190), (25, 40540, 3545), (26, 33756, 4121), (27, 24324, 5265), (28, 0, 12385)]
theorem r28_0 : al (chk 28 438837 cs28) 413 40 = true := by kernel_rfl
theorem r28_1 : al (chk 28 438837 cs28) 413 453 = true := by kernel_rfl
theorem r28_2 : al (chk 28 438837 cs28) 414 866 = true := by kernel_rfl
theorem r28_3 : al (chk 28 438837 cs28) 413 1280 = true := by kernel_rfl
theorem r28_4 : al (chk 28 438837 cs28) 413 1693 = true := by kernel_rfl
theorem r28_5 : al (chk 28 438837 cs28) 414 2106 = true := by kernel_rfl
theorem r28_6 : al (chk 28 438837 cs28) 413 2520 = true := by kernel_rfl
theorem r28_7 : al (chk 28 438837 cs28) 413 2933 = true := by kernel_rfl
theorem r28_8 : al (chk 28 438837 cs28) 414 3346 = true := by kernel_rfl
theorem r28_9 : al (chk 28 438837 cs28) 413 3760 = true := by kernel_rfl
theorem r28_10 : al (chk 28 438837 cs28) 413 4173 = true := by kernel_rfl
theorem r28_11 : al (chk 28 438837 cs28) 414 4586 = true := by kernel_rfl
theorem r28 : ∀ S, 40 ≤ S → S < 5000 → chk 28 438837 cs28 S = true := fun S h1 h2 => by
  rcases Nat.lt_or_ge S 453 with h | h
  · exact al_at r28_0 (by omega) (by omega)
  rcases Nat.lt_or_ge S 866 with h | h
  · exact al_at r28_1 (by omega) (by omega)
  rcases Nat.lt_or_ge S 1280 with h | h
  · exact al_at r28_2 (by omega) (by omega)
  rcases Nat.lt_or_ge S 1693 with h | h
  · exact al_at r28_3 (by omega) (by omega)
  rcases Nat.lt_or_ge S 2106 with h | h
  · exact al_at r28_4 (by omega) (by omega)
  rcases Nat.lt_or_ge S 2520 with h | h
  · exact al_at r28_5 (by omega) (by omega)
  rcases Nat.lt_or_ge S 2933 with h | h
  · exact al_at r28_6 (by omega) (by omega)
  rcases Nat.lt_or_ge S 3346 with h | h
  · exact al_at r28_7 (by omega) (by omega)
  rcases Nat.lt_or_ge S 3760 with h | h
  · exact al_at r28_8 (by omega) (by omega)
  rcases Nat.lt_or_ge S 4173 with h | h
  · exact al_at r28_9 (by omega) (by omega)
  rcases Nat.lt_or_ge S 4586 with h | h
  · exact al_at r28_10 (by omega) (by omega)
  exact al_at r28_11 (by omega) (by omega)
def cs29 : List (Nat × Nat × Nat) := [(1, 23916, 12170), (2, 33213, 5169), (3, 39917, 4043), (4, 45197, 3475), (5, 49511, 3124), (6, 53095, 2884), (7, 56088, 2710), (8, 58582, 2581), (9, 60638, 2483), (10, 62300, 2408), (11, 63598, 2351), (12, 64555, 2310), (13, 65184, 2282), (14, 65497, 2265), (15, 65497, 2260), (16, 65184, 2265), (17, 64555, 2282), (18, 63598, 2310), (19, 62300, 2351), (20, 60638, 2408), (21, 58582, 2483), (22, 56088, 2581), (23, 53095, 2710), (24, 49511, 2884), (25, 45197, 3124), (26, 39917, 3475), (27, 33213, 4043), (28, 23916, 5169), (29, 0, 12170)]
theorem r29_0 : al (chk 29 438985 cs29) 413 40 = true := by kernel_rfl
theorem r29_1 : al (chk 29 438985 cs29) 413 453 = true := by kernel_rfl
theorem r29_2 : al (chk 29 438985 cs29) 414 866 = true := by kernel_rfl
theorem r29_3 : al (chk 29 438985 cs29) 413 1280 = true := by kernel_rfl
theorem r29_4 : al (chk 29 438985 cs29) 413 1693 = true := by kernel_rfl
theorem r29_5 : al (chk 29 438985 cs29) 414 2106 = true := by kernel_rfl
theorem r29_6 : al (chk 29 438985 cs29) 413 2520 = true := by kernel_rfl
theorem r29_7 : al (chk 29 438985 cs29) 413 2933 = true := by kernel_rfl
theorem r29_8 : al (chk 29 438985 cs29) 414 3346 = true := by kernel_rfl
theorem r29_9 : al (chk 29 438985 cs29) 413 3760 = true := by kernel_rfl
theorem r29_10 : al (chk 29 438985 cs29) 413 4173 = true := by kernel_rfl
theorem r29_11 : al (chk 29 438985 cs29) 414 4586 = true := by kernel_rfl
theorem r29 : ∀ S, 40 ≤ S → S < 5000 → chk 29 438985 cs29 S = true := fun S h1 h2 => by
  rcases Nat.lt_or_ge S 453 with h | h
  · exact al_at r29_0 (by omega) (by omega)
  rcases Nat.lt_or_ge S 866 with h | h
  · exact al_at r29_1 (by omega) (by omega)
  rcases Nat.lt_or_ge S 1280 with h | h
  · exact al_at r29_2 (by omega) (by omega)
  rcases Nat.lt_or_ge S 1693 with h | h
  · exact al_at r29_3 (by omega) (by omega)
  rcases Nat.lt_or_ge S 2106 with h | h
  · exact al_at r29_4 (by omega) (by omega)
  rcases Nat.lt_or_ge S 2520 with h | h
  · exact al_at r29_5 (by omega) (by omega)
  rcases Nat.lt_or_ge S 2933 with h | h
  · exact al_at r29_6 (by omega) (by omega)
  rcases Nat.lt_or_ge S 3346 with h | h
  · exact al_at r29_7 (by omega) (by omega)
  rcases Nat.lt_or_ge S 3760 with h | h
  · exact al_at r29_8 (by omega) (by omega)
  rcases Nat.lt_or_ge S 4173 with h | h
  · exact al_at r29_9 (by omega) (by omega)
  rcases Nat.lt_or_ge S 4586 with h | h
  · exact al_at r29_10 (by omega) (by omega)
  exact al_at r29_11 (by omega) (by omega)
end Go.Proofs.Ytnphcnhefgjpjaa.Circ
