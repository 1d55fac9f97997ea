/- Points of the curve, in the ring of integers modulo a prime: sums are on it, and are added as in a group. -/
import Derived.Test.YtaapajicchefdaaDoorCv0
set_option linter.unusedVariables false
namespace Go.Cv
theorem dm {p a : Int} (r : Int) (h : p ∣ a) : p ∣ r * a := Int.dvd_trans h ⟨r, by rw [Int.mul_comm]⟩
theorem lc1 {p X E1 r1 : Int} (h1 : p ∣ E1) (e : X = r1 * E1) : p ∣ X := by rw [e]; exact dm r1 h1
theorem lc2 {p X E1 E2 r1 r2 : Int} (h1 : p ∣ E1) (h2 : p ∣ E2) (e : X = r1 * E1 + r2 * E2) : p ∣ X := by rw [e]; exact Int.dvd_add (dm r1 h1) (dm r2 h2)
theorem lc3 {p X E1 E2 E3 r1 r2 r3 : Int} (h1 : p ∣ E1) (h2 : p ∣ E2) (h3 : p ∣ E3) (e : X = r1 * E1 + r2 * E2 + r3 * E3) : p ∣ X := by rw [e]; exact Int.dvd_add (Int.dvd_add (dm r1 h1) (dm r2 h2)) (dm r3 h3)
theorem lc4 {p X E1 E2 E3 E4 r1 r2 r3 r4 : Int} (h1 : p ∣ E1) (h2 : p ∣ E2) (h3 : p ∣ E3) (h4 : p ∣ E4) (e : X = r1 * E1 + r2 * E2 + r3 * E3 + r4 * E4) : p ∣ X := by rw [e]; exact Int.dvd_add (Int.dvd_add (Int.dvd_add (dm r1 h1) (dm r2 h2)) (dm r3 h3)) (dm r4 h4)
def On (p d x y : Int) : Prop := p ∣ y * y - x * x - 1 - d * (x * x * (y * y))
/-- The third is the sum of two. -/
def Sm (p d x1 y1 x2 y2 x3 y3 : Int) : Prop := p ∣ x3 * (1 + d * (x1 * x2 * (y1 * y2))) - (x1 * y2 + y1 * x2) ∧ p ∣ y3 * (1 - d * (x1 * x2 * (y1 * y2))) - (y1 * y2 + x1 * x2)
/-- What is asked of the field: no divisors of zero, not of characteristic 2; -1 is a square, d is none. -/
structure Fl (p d i : Int) : Prop where
  hz : ∀ x y, p ∣ x * y → p ∣ x ∨ p ∣ y
  h1 : ¬ p ∣ 1
  h2 : ¬ p ∣ 2
  hi : p ∣ i * i + 1
  hd : ∀ a b, p ∣ a * a - d * (b * b) → p ∣ b
section
variable {p d i : Int}
theorem id_complete (x1 y1 x2 y2 d i e : Int) : (y1 + i * e * x1) * (y1 + i * e * x1) - d * ((x1 * y1 * (y2 + i * x2)) * (x1 * y1 * (y2 + i * x2))) =
    1 * (y1 * y1 - x1 * x1 - 1 - d * (x1 * x1 * (y1 * y1))) + (-(d * (x1 * x1 * (y1 * y1)))) * (y2 * y2 - x2 * x2 - 1 - d * (x2 * x2 * (y2 * y2))) + (-(2 * i * x1 * y1) - (d * (x1 * x2 * (y1 * y2)) + e)) * (d * (x1 * x2 * (y1 * y2)) - e) + (e * e * x1 * x1 - d * (x1 * x1 * (y1 * y1) * (x2 * x2))) * (i * i + 1) + (1 - e * e) * (1 + x1 * x1) := by grind
theorem Fl.complete (F : Fl p d i) {x1 y1 x2 y2 e : Int} (h1 : On p d x1 y1) (h2 : On p d x2 y2) (he : e * e = 1) : ¬ p ∣ d * (x1 * x2 * (y1 * y2)) - e := by
  intro hk
  have key : ∀ j : Int, p ∣ j * j + 1 → p ∣ x1 * y1 * (y2 + j * x2) := fun j hj => by
    have hc := id_complete x1 y1 x2 y2 d j e
    rw [he, Int.sub_self, Int.zero_mul, Int.add_zero] at hc
    exact F.hd (y1 + j * e * x1) _ (lc4 h1 h2 hk hj hc)
  have hk0 : ¬ p ∣ d * (x1 * x2 * (y1 * y2)) := fun h => by
    have h3 : p ∣ e := by have := Int.dvd_sub h hk; rwa [show d * (x1 * x2 * (y1 * y2)) - (d * (x1 * x2 * (y1 * y2)) - e) = e by omega] at this
    exact F.h1 (by rw [← he]; exact dm e h3)
  have hx1 : ¬ p ∣ x1 * y1 := fun h => hk0 (lc1 h (r1 := d * (x2 * y2)) (by grind))
  have c1 := (F.hz _ _ (key i F.hi)).resolve_left hx1
  have c2 := (F.hz _ _ (key (-i) (by rw [show -i * -i = i * i by grind]; exact F.hi))).resolve_left hx1
  have c3 : p ∣ 2 * y2 := by have := Int.dvd_add c1 c2; rwa [show y2 + i * x2 + (y2 + -i * x2) = 2 * y2 by grind] at this
  have c4 := (F.hz _ _ c3).resolve_left F.h2
  exact hk0 (lc1 c4 (r1 := d * (x1 * x2 * y1)) (by grind))
theorem Fl.plus (F : Fl p d i) {x1 y1 x2 y2 : Int} (h1 : On p d x1 y1) (h2 : On p d x2 y2) : ¬ p ∣ 1 + d * (x1 * x2 * (y1 * y2)) := fun h =>
  F.complete h1 h2 (e := -1) rfl (by rw [show d * (x1 * x2 * (y1 * y2)) - -1 = 1 + d * (x1 * x2 * (y1 * y2)) by omega]; exact h)
theorem Fl.minus (F : Fl p d i) {x1 y1 x2 y2 : Int} (h1 : On p d x1 y1) (h2 : On p d x2 y2) : ¬ p ∣ 1 - d * (x1 * x2 * (y1 * y2)) := fun h =>
  F.complete h1 h2 (e := 1) rfl (by
    have := dm (-1) h
    rwa [show -1 * (1 - d * (x1 * x2 * (y1 * y2))) = d * (x1 * x2 * (y1 * y2)) - 1 by omega] at this)
theorem Fl.cancel (F : Fl p d i) {a x y : Int} (ha : ¬ p ∣ a) (h : p ∣ a * x - a * y) : p ∣ x - y := by
  rw [← Int.mul_sub] at h
  exact (F.hz _ _ h).resolve_left ha
theorem id_closed (x1 y1 x2 y2 d : Int) : (y1 * y2 + x1 * x2) * (y1 * y2 + x1 * x2) * ((1 + d * (x1 * x2 * (y1 * y2))) * (1 + d * (x1 * x2 * (y1 * y2)))) - (x1 * y2 + y1 * x2) * (x1 * y2 + y1 * x2) * ((1 - d * (x1 * x2 * (y1 * y2))) * (1 - d * (x1 * x2 * (y1 * y2)))) - (1 + d * (x1 * x2 * (y1 * y2))) * (1 + d * (x1 * x2 * (y1 * y2))) * ((1 - d * (x1 * x2 * (y1 * y2))) * (1 - d * (x1 * x2 * (y1 * y2)))) - d * ((x1 * y2 + y1 * x2) * (x1 * y2 + y1 * x2) * ((y1 * y2 + x1 * x2) * (y1 * y2 + x1 * x2))) =
    (x1 * x1 * y1 * y1 * x2 * x2 * x2 * x2 * y2 * y2 * y2 * y2 * d * d * d - x1 * x1 * x2 * x2 * x2 * x2 * y2 * y2 * y2 * y2 * d * d - x1 * x1 * x2 * x2 * x2 * x2 * y2 * y2 * d + x1 * x1 * x2 * x2 * y2 * y2 * y2 * y2 * d + y1 * y1 * x2 * x2 * x2 * x2 * y2 * y2 * y2 * y2 * d * d + y1 * y1 * x2 * x2 * x2 * x2 * y2 * y2 * d - y1 * y1 * x2 * x2 * y2 * y2 * y2 * y2 * d - x2 * x2 * x2 * x2 * y2 * y2 * y2 * y2 * d * d - 2 * x2 * x2 * x2 * x2 * y2 * y2 * y2 * y2 * d - 2 * x2 * x2 * x2 * x2 * y2 * y2 + x2 * x2 * x2 * x2 + 2 * x2 * x2 * y2 * y2 * y2 * y2 - 2 * x2 * x2 * y2 * y2 * d - 4 * x2 * x2 * y2 * y2 + y2 * y2 * y2 * y2) * (y1 * y1 - x1 * x1 - 1 - d * (x1 * x1 * (y1 * y1))) + (x1 * x1 * x1 * x1 * x2 * x2 * y2 * y2 * d + 2 * x1 * x1 * x2 * x2 * y2 * y2 * d + 2 * x1 * x1 * x2 * x2 * y2 * y2 - x1 * x1 * x2 * x2 + x1 * x1 * y2 * y2 + y1 * y1 * y1 * y1 * x2 * x2 * y2 * y2 * d - 2 * y1 * y1 * x2 * x2 * y2 * y2 * d - 2 * y1 * y1 * x2 * x2 * y2 * y2 + y1 * y1 * x2 * x2 - y1 * y1 * y2 * y2 + x2 * x2 * y2 * y2 * d + 2 * x2 * x2 * y2 * y2 - x2 * x2 + y2 * y2 + 1) * (y2 * y2 - x2 * x2 - 1 - d * (x2 * x2 * (y2 * y2))) := by grind
theorem id_closed2 (a b nx ny x3 y3 d : Int) : (a * a * (b * b)) * (y3 * y3 - x3 * x3 - 1 - d * (x3 * x3 * (y3 * y3))) =
    1 * (ny * ny * (a * a) - nx * nx * (b * b) - a * a * (b * b) - d * (nx * nx * (ny * ny))) + (-((x3 * a + nx) * (b * b + d * (ny * ny)))) * (x3 * a - nx) + ((y3 * b + ny) * (a * a - d * ((x3 * a) * (x3 * a)))) * (y3 * b - ny) := by grind
theorem Fl.closed (F : Fl p d i) {x1 y1 x2 y2 x3 y3 : Int} (h1 : On p d x1 y1) (h2 : On p d x2 y2) (hs : Sm p d x1 y1 x2 y2 x3 y3) : On p d x3 y3 := by
  have ha := F.plus h1 h2
  have hb := F.minus h1 h2
  have k1 := lc2 h1 h2 (id_closed x1 y1 x2 y2 d)
  have k2 := lc3 k1 hs.1 hs.2 (id_closed2 _ _ _ _ x3 y3 d)
  rcases F.hz _ _ k2 with h | h
  · exfalso
    rcases F.hz _ _ h with h | h <;> rcases F.hz _ _ h with h | h
    · exact ha h
    · exact ha h
    · exact hb h
    · exact hb h
  · exact h
theorem id_left (a b nx ny xd yd x3 y3 xe d : Int) : xe * (a * b + d * (nx * ny * (x3 * y3))) - (nx * b * y3 + ny * a * x3) =
    (a * b) * (xe * (1 + d * (xd * x3 * (yd * y3))) - (xd * y3 + yd * x3)) + (b * y3 - xe * d * (x3 * y3) * (yd * b)) * (xd * a - nx) + (a * x3 - xe * d * (x3 * y3) * nx) * (yd * b - ny) := by grind
theorem id_lefty (a b nx ny xd yd x3 y3 ye d : Int) : ye * (a * b - d * (nx * ny * (x3 * y3))) - (ny * a * y3 + nx * b * x3) =
    (a * b) * (ye * (1 - d * (xd * x3 * (yd * y3))) - (yd * y3 + xd * x3)) + (b * x3 + ye * d * (x3 * y3) * (yd * b)) * (xd * a - nx) + (a * y3 + ye * d * (x3 * y3) * nx) * (yd * b - ny) := by grind
theorem id_dl (a b nx ny xd yd x3 y3 d : Int) : (a * b + d * (nx * ny * (x3 * y3))) - (a * b) * (1 + d * (xd * x3 * (yd * y3))) = (-(d * (x3 * y3)) * (yd * b)) * (xd * a - nx) + (-(d * (x3 * y3)) * nx) * (yd * b - ny) := by grind
theorem id_dly (a b nx ny xd yd x3 y3 d : Int) : (a * b - d * (nx * ny * (x3 * y3))) - (a * b) * (1 - d * (xd * x3 * (yd * y3))) = ((d * (x3 * y3)) * (yd * b)) * (xd * a - nx) + ((d * (x3 * y3)) * nx) * (yd * b - ny) := by grind
theorem id_fin (xe xf dl dr nl nr : Int) : (dl * dr) * xe - (dl * dr) * xf = dr * (xe * dl - nl) + (-dl) * (xf * dr - nr) + 1 * (nl * dr - nr * dl) := by grind
theorem id_right (x1 y1 xf yf xe d : Int) : xe * (1 + d * (x1 * xf * (y1 * yf))) - (x1 * yf + y1 * xf) = xe * (1 + d * (xf * x1 * (yf * y1))) - (xf * y1 + yf * x1) := by grind
theorem id_righty (x1 y1 xf yf ye d : Int) : ye * (1 - d * (x1 * xf * (y1 * yf))) - (y1 * yf + x1 * xf) = ye * (1 - d * (xf * x1 * (yf * y1))) - (yf * y1 + xf * x1) := by grind
theorem Fl.nz (F : Fl p d i) {a b c X : Int} (ha : ¬ p ∣ a) (hb : ¬ p ∣ b) (hc : ¬ p ∣ c) (h : p ∣ X - (a * b) * c) : ¬ p ∣ X := fun hX => by
  have h3 : p ∣ a * b * c := by have := Int.dvd_sub hX h; rwa [show X - (X - a * b * c) = a * b * c by omega] at this
  rcases F.hz _ _ h3 with h | h
  · rcases F.hz _ _ h with h | h
    · exact ha h
    · exact hb h
  · exact hc h
theorem Fl.nz2 (F : Fl p d i) {a b : Int} (ha : ¬ p ∣ a) (hb : ¬ p ∣ b) : ¬ p ∣ a * b := fun h => (F.hz _ _ h).elim ha hb
theorem id_nr (x1 y1 n m p q : Int) : x1 * (n * p) + y1 * (m * q) = m * q * y1 + n * p * x1 := by grind
theorem id_nry (x1 y1 n m p q : Int) : y1 * (n * p) + x1 * (m * q) = n * p * y1 + m * q * x1 := by grind
/-- **Sums of three.** -/
theorem Fl.assoc (F : Fl p d i) {x1 y1 x2 y2 x3 y3 xd yd xe ye xf yf xg yg : Int} (h1 : On p d x1 y1) (h2 : On p d x2 y2) (h3 : On p d x3 y3)
    (hd : Sm p d x1 y1 x2 y2 xd yd) (he : Sm p d xd yd x3 y3 xe ye) (hf : Sm p d x2 y2 x3 y3 xf yf) (hg : Sm p d x1 y1 xf yf xg yg) : p ∣ xe - xg ∧ p ∣ ye - yg := by
  have od := F.closed h1 h2 hd
  have of := F.closed h2 h3 hf
  have e1 := he.1
  have e2 := he.2
  have g1 := hg.1
  have g2 := hg.2
  rw [id_right] at g1
  rw [id_righty] at g2
  have L1 := lc3 e1 hd.1 hd.2 (id_left _ _ _ _ xd yd x3 y3 xe d)
  have L2 := lc3 e2 hd.1 hd.2 (id_lefty _ _ _ _ xd yd x3 y3 ye d)
  have M1 := lc3 g1 hf.1 hf.2 (id_left _ _ _ _ xf yf x1 y1 xg d)
  have M2 := lc3 g2 hf.1 hf.2 (id_lefty _ _ _ _ xf yf x1 y1 yg d)
  have pa := F.plus h1 h2
  have pb := F.minus h1 h2
  have qa := F.plus h2 h3
  have qb := F.minus h2 h3
  have n1 := F.nz pa pb (F.plus od h3) (lc2 hd.1 hd.2 (id_dl _ _ _ _ xd yd x3 y3 d))
  have n2 := F.nz pa pb (F.minus od h3) (lc2 hd.1 hd.2 (id_dly _ _ _ _ xd yd x3 y3 d))
  have m1 := F.nz qa qb (F.plus of h1) (lc2 hf.1 hf.2 (id_dl _ _ _ _ xf yf x1 y1 d))
  have m2 := F.nz qa qb (F.minus of h1) (lc2 hf.1 hf.2 (id_dly _ _ _ _ xf yf x1 y1 d))
  have ax := lc3 h1 h2 h3 (assoc_x x1 y1 x2 y2 x3 y3 d)
  have ay := lc3 h1 h2 h3 (assoc_y x1 y1 x2 y2 x3 y3 d)
  rw [id_nr] at ax
  rw [id_nry] at ay
  exact ⟨F.cancel (F.nz2 n1 m1) (lc3 L1 M1 ax (id_fin _ _ _ _ _ _)), F.cancel (F.nz2 n2 m2) (lc3 L2 M2 ay (id_fin _ _ _ _ _ _))⟩
/-- There is just one sum. -/
theorem Fl.uniq (F : Fl p d i) {x1 y1 x2 y2 x3 y3 x4 y4 : Int} (h1 : On p d x1 y1) (h2 : On p d x2 y2) (hs : Sm p d x1 y1 x2 y2 x3 y3) (ht : Sm p d x1 y1 x2 y2 x4 y4) : p ∣ x3 - x4 ∧ p ∣ y3 - y4 := by
  refine ⟨F.cancel (F.plus h1 h2) ?_, F.cancel (F.minus h1 h2) ?_⟩
  · exact lc2 hs.1 ht.1 (r1 := 1) (r2 := -1) (by grind)
  · exact lc2 hs.2 ht.2 (r1 := 1) (r2 := -1) (by grind)
end
end Go.Cv
