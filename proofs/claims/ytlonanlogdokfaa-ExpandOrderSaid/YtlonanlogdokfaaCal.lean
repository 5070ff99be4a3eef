/- Plain arithmetic of the calendar: days of years and months, and the formula over years that begin in March, are the same. No program in sight. -/
namespace Go.Proofs.Ytlonanlogdokfaa.Cal

def lp (y : Int) : Bool := decide (y % 4 = 0) && (decide (y % 100 ≠ 0) || decide (y % 400 = 0))
def li (y : Int) : Int := if lp y = true then 1 else 0
def dim (y m : Int) : Int :=
  if m = 2 then 28 + li y else if m = 4 ∨ m = 6 ∨ m = 9 ∨ m = 11 then 30 else if 1 ≤ m ∧ m ≤ 12 then 31 else 0
def vld (y m d : Int) : Bool := decide (-9999 ≤ y ∧ y ≤ 9999 ∧ 1 ≤ m ∧ m ≤ 12 ∧ 1 ≤ d ∧ d ≤ dim y m)
/-- the number of January 1 -/
def jan (y : Int) : Int := 365 * (y - 1970) + (y - 1) / 4 - (y - 1) / 100 + (y - 1) / 400 - 477
def cum (y m : Int) : Int :=
  if m ≤ 1 then 0 else if m = 2 then 31 else
  li y + (if m = 3 then 59 else if m = 4 then 90 else if m = 5 then 120 else if m = 6 then 151 else if m = 7 then 181 else if m = 8 then 212
    else if m = 9 then 243 else if m = 10 then 273 else if m = 11 then 304 else if m = 12 then 334 else 365)
def num (y m d : Int) : Int := jan y + cum y m + d - 1

theorem lp_iff (y : Int) : lp y = true ↔ y % 4 = 0 ∧ (y % 100 ≠ 0 ∨ y % 400 = 0) := by
  unfold lp; simp
theorem li_eq (y : Int) : li y = y / 4 - y / 100 + y / 400 - ((y - 1) / 4 - (y - 1) / 100 + (y - 1) / 400) := by
  unfold li
  by_cases h : lp y = true
  · rw [if_pos h]; rw [lp_iff] at h; omega
  · rw [if_neg h]; rw [lp_iff] at h; omega
theorem li_01 (y : Int) : li y = 0 ∨ li y = 1 := by unfold li; split <;> simp
theorem jan_succ (y : Int) : jan (y + 1) = jan y + 365 + li y := by
  rw [li_eq]; unfold jan
  have : y + 1 - 1 = y := by omega
  rw [this]; omega
theorem jan_400 (y : Int) : jan (y + 400) = jan y + 146097 := by unfold jan; omega
theorem li_400 (y : Int) : li (y + 400) = li y := by rw [li_eq, li_eq]; omega
theorem jan_1970 : jan 1970 = 0 := by decide
theorem cum_one (y : Int) : cum y 1 = 0 := rfl
theorem cum_succ (y m : Int) (h1 : 1 ≤ m) (h2 : m ≤ 12) : cum y (m + 1) = cum y m + dim y m := by
  have : m = 1 ∨ m = 2 ∨ m = 3 ∨ m = 4 ∨ m = 5 ∨ m = 6 ∨ m = 7 ∨ m = 8 ∨ m = 9 ∨ m = 10 ∨ m = 11 ∨ m = 12 := by omega
  rcases this with rfl | rfl | rfl | rfl | rfl | rfl | rfl | rfl | rfl | rfl | rfl | rfl <;> (simp [cum, dim]; try omega)
theorem cum_13 (y : Int) : cum y 13 = 365 + li y := by simp [cum]; omega
theorem cum_mono (y m : Int) (h1 : 1 ≤ m) (h2 : m ≤ 12) : 0 ≤ cum y m ∧ cum y m + dim y m ≤ 365 + li y := by
  have := li_01 y
  have : m = 1 ∨ m = 2 ∨ m = 3 ∨ m = 4 ∨ m = 5 ∨ m = 6 ∨ m = 7 ∨ m = 8 ∨ m = 9 ∨ m = 10 ∨ m = 11 ∨ m = 12 := by omega
  rcases this with rfl | rfl | rfl | rfl | rfl | rfl | rfl | rfl | rfl | rfl | rfl | rfl <;> (simp [cum, dim]; try omega)
theorem dim_bd (y m : Int) (h1 : 1 ≤ m) (h2 : m ≤ 12) : 28 ≤ dim y m ∧ dim y m ≤ 31 := by
  have := li_01 y; unfold dim; split <;> try split <;> try split
  all_goals omega
theorem dim_no (y m : Int) (h : ¬ (1 ≤ m ∧ m ≤ 12)) : dim y m = 0 := by
  unfold dim; rw [if_neg (by omega), if_neg (by omega), if_neg h]
theorem jan_bd (y : Int) (h1 : -9999 ≤ y) (h2 : y ≤ 10000) : -4371953 ≤ jan y ∧ jan y ≤ 2932897 := by unfold jan; omega
theorem jan_first : jan (-9999) = -4371587 := by decide
theorem jan_last : jan 10000 = 2932897 := by decide
theorem jan_lt {a b : Int} (h : a < b) : jan a < jan b := by unfold jan; omega
theorem jan_le {a b : Int} (h : a ≤ b) : jan a ≤ jan b := by unfold jan; omega

/-- the number by years that begin in March -/
def era (y : Int) : Int := (y + 12000) / 400
def mar (y m d : Int) : Int := era y * 146097 + (y + 12000 - era y * 400) * 365 + (y + 12000 - era y * 400) / 4 - (y + 12000 - era y * 400) / 100 + ((153 * (m - 3) + 2) / 5 + d - 1) - 5102378
def gnum (y m d : Int) : Int := if m ≤ 2 then mar (y - 1) (m + 12) d else mar y m d
theorem gnum_eq (y m d : Int) (h1 : 1 ≤ m) (h2 : m ≤ 12) : gnum y m d = num y m d := by
  have hl := li_eq y
  have : m = 1 ∨ m = 2 ∨ m = 3 ∨ m = 4 ∨ m = 5 ∨ m = 6 ∨ m = 7 ∨ m = 8 ∨ m = 9 ∨ m = 10 ∨ m = 11 ∨ m = 12 := by omega
  rcases this with rfl | rfl | rfl | rfl | rfl | rfl | rfl | rfl | rfl | rfl | rfl | rfl <;>
    (simp [gnum, num, mar, era, cum, jan]; omega)

/-! the date of a number -/
def fe (n : Int) : Int := n - n / 1460 + n / 36524 - n / 146096
def st (y : Int) : Int := 365 * y + y / 4 - y / 100 + y / 400
theorem fe_mono {a b : Int} (h0 : 0 ≤ a) (h : a ≤ b) (h1 : b ≤ 146096) : fe a ≤ fe b := by
  have key : ∀ d : Nat, ∀ a : Int, 0 ≤ a → a + d ≤ 146096 → fe a ≤ fe (a + d) := by
    intro d
    induction d with
    | zero => intro a _ _; simp
    | succ d ih =>
      intro a h0 h1
      have := ih a h0 (by omega)
      have e : fe (a + d) ≤ fe (a + d + 1) := by
        unfold fe; generalize a + (d : Int) = x at *; omega
      have e2 : a + ((d + 1 : Nat) : Int) = a + d + 1 := by omega
      rw [e2]; omega
  have := key (b - a).toNat a h0 (by omega)
  have e : a + ((b - a).toNat : Int) = b := by omega
  rw [e] at this; exact this
set_option maxRecDepth 100000 in
theorem ends_nat : ∀ y : Fin 400, 365 * (y.val : Int) ≤ fe (st y.val) ∧ fe (st (y.val + 1) - 1) < 365 * ((y.val : Int) + 1) := by decide +kernel
theorem ends {y : Int} (h0 : 0 ≤ y) (h1 : y ≤ 399) : 365 * y ≤ fe (st y) ∧ fe (st (y + 1) - 1) < 365 * (y + 1) := by
  obtain ⟨n, rfl⟩ := Int.eq_ofNat_of_zero_le h0
  exact ends_nat ⟨n, by omega⟩
theorem fe_bd {n : Int} (h0 : 0 ≤ n) (h1 : n ≤ 146096) : 0 ≤ fe n ∧ fe n ≤ 145999 := by unfold fe; omega
/-- the year of an era, of a day of it -/
theorem yoe_between {n : Int} (h0 : 0 ≤ n) (h1 : n ≤ 146096) :
    0 ≤ fe n / 365 ∧ fe n / 365 ≤ 399 ∧ st (fe n / 365) ≤ n ∧ n < st (fe n / 365 + 1) := by
  have hb := fe_bd h0 h1
  generalize hy : fe n / 365 = y
  have a : 0 ≤ y := by omega
  have b : y ≤ 399 := by omega
  refine ⟨a, b, ?_, ?_⟩
  · rcases Int.lt_or_le n (st y) with h | h
    · exfalso
      have y1 : 1 ≤ y := by unfold st at h; omega
      have e := (ends (y := y - 1) (by omega) (by omega)).2
      rw [Int.sub_add_cancel] at e
      have hs : st y ≤ 146097 := by unfold st; omega
      have := fe_mono h0 (b := st y - 1) (by omega) (by omega)
      omega
    · exact h
  · rcases Int.lt_or_le n (st (y + 1)) with h | h
    · exact h
    · exfalso
      by_cases e : y = 399
      · subst e; have : st (399 + 1) = 146097 := by decide
        omega
      · have k := (ends (y := y + 1) (by omega) (by omega)).1
        have hs : 0 ≤ st (y + 1) := by unfold st; omega
        have := fe_mono hs h h1
        omega
/-- the parts of the date of a number -/
def zE (n : Int) : Int := (n + 5102378) / 146097
def zD (n : Int) : Int := n + 5102378 - zE n * 146097
def zY (n : Int) : Int := fe (zD n) / 365
def zO (n : Int) : Int := zD n - (365 * zY n + zY n / 4 - zY n / 100)
def zM (n : Int) : Int := (5 * zO n + 2) / 153
def dD (n : Int) : Int := zO n - (153 * zM n + 2) / 5 + 1
def dM (n : Int) : Int := if zM n + 3 > 12 then zM n + 3 - 12 else zM n + 3
def dY (n : Int) : Int := if zM n + 3 > 12 then zY n + zE n * 400 - 12000 + 1 else zY n + zE n * 400 - 12000
theorem zD_bd (n : Int) : 0 ≤ zD n ∧ zD n ≤ 146096 := by unfold zD zE; omega
theorem zY_bd (n : Int) : 0 ≤ zY n ∧ zY n ≤ 399 := by
  have := yoe_between (zD_bd n).1 (zD_bd n).2; unfold zY; omega
theorem zO_bd (n : Int) : 0 ≤ zO n ∧ zO n ≤ 364 + li (zY n + 1) ∧ zO n ≤ 365 := by
  obtain ⟨a, b, c, d⟩ := yoe_between (zD_bd n).1 (zD_bd n).2
  have hl := li_eq (zY n + 1)
  have h1 := li_01 (zY n + 1)
  rw [Int.add_sub_cancel] at hl
  change 0 ≤ zY n at a; change zY n ≤ 399 at b; change st (zY n) ≤ _ at c; change _ < st (zY n + 1) at d
  unfold zO
  unfold st at c d
  generalize zY n = y at *
  generalize li (y + 1) = l at *
  have : y / 400 = 0 := by omega
  omega
theorem li_era (y e : Int) : li (y + e * 400) = li y := by rw [li_eq, li_eq]; omega
theorem date_num (n : Int) : 1 ≤ dM n ∧ dM n ≤ 12 ∧ 1 ≤ dD n ∧ dD n ≤ dim (dY n) (dM n) ∧ num (dY n) (dM n) (dD n) = n := by
  have hO := zO_bd n
  have hY := zY_bd n
  have hD := zD_bd n
  have hm : 0 ≤ zM n ∧ zM n ≤ 11 := by unfold zM; omega
  have hd1 : 1 ≤ dD n := by unfold dD zM; omega
  have m1 : 1 ≤ dM n ∧ dM n ≤ 12 := by unfold dM; split <;> omega
  refine ⟨m1.1, m1.2, hd1, ?_, ?_⟩
  · have hle : li (dY n) = li (zY n + 1) ∨ zM n ≤ 9 := by
      by_cases h : zM n + 3 > 12
      · left; unfold dY; rw [if_pos h]
        have : zY n + zE n * 400 - 12000 + 1 = (zY n + 1) + (zE n - 30) * 400 := by omega
        rw [this, li_era]
      · right; omega
    have hx : zM n = (5 * zO n + 2) / 153 := rfl
    unfold dD dim dM
    generalize li (dY n) = l at *
    generalize li (zY n + 1) = l' at *
    generalize zM n = m at *
    generalize zO n = o at *
    clear hY hD hd1 m1
    have : m = 0 ∨ m = 1 ∨ m = 2 ∨ m = 3 ∨ m = 4 ∨ m = 5 ∨ m = 6 ∨ m = 7 ∨ m = 8 ∨ m = 9 ∨ m = 10 ∨ m = 11 := by omega
    rcases this with rfl | rfl | rfl | rfl | rfl | rfl | rfl | rfl | rfl | rfl | rfl | rfl <;> simp <;> omega
  · rw [← gnum_eq _ _ _ m1.1 m1.2]
    have hg : gnum (dY n) (dM n) (dD n) = mar (zY n + zE n * 400 - 12000) (zM n + 3) (dD n) := by
      unfold gnum dY dM
      by_cases h : zM n + 3 > 12
      · rw [if_pos h, if_pos (by omega)]; congr 1 <;> omega
      · rw [if_neg h, if_neg (by omega), if_neg h]
    rw [hg]
    have he : era (zY n + zE n * 400 - 12000) = zE n := by unfold era; omega
    unfold mar; rw [he]
    have e1 : zY n + zE n * 400 - 12000 + 12000 - zE n * 400 = zY n := by omega
    rw [e1]
    unfold dD
    have e2 : zM n + 3 - 3 = zM n := by omega
    rw [e2]
    have ho : zO n = zD n - (365 * zY n + zY n / 4 - zY n / 100) := rfl
    have hd : zD n = n + 5102378 - zE n * 146097 := rfl
    omega
theorem num_lt {y m d : Int} (h1 : 1 ≤ m) (h2 : m ≤ 12) (h3 : 1 ≤ d) (h4 : d ≤ dim y m) : jan y ≤ num y m d ∧ num y m d < jan (y + 1) := by
  have := cum_mono y m h1 h2
  rw [jan_succ]; unfold num; omega
theorem date_year (n : Int) (h1 : jan (-9999) ≤ n) (h2 : n < jan 10000) : -9999 ≤ dY n ∧ dY n ≤ 9999 := by
  obtain ⟨a, b, c, d, e⟩ := date_num n
  have hn := num_lt a b c d
  rw [e] at hn
  constructor
  · rcases Int.lt_or_le (dY n) (-9999) with h | h
    · have := jan_le (a := dY n + 1) (b := -9999) (by omega); omega
    · exact h
  · rcases Int.lt_or_le 9999 (dY n) with h | h
    · have := jan_le (a := 10000) (b := dY n) (by omega); omega
    · exact h
theorem vld_iff (y m d : Int) : vld y m d = true ↔ (-9999 ≤ y ∧ y ≤ 9999 ∧ 1 ≤ m ∧ m ≤ 12 ∧ 1 ≤ d ∧ d ≤ dim y m) := by unfold vld; simp
theorem vld_date (n : Int) (h1 : jan (-9999) ≤ n) (h2 : n < jan 10000) : vld (dY n) (dM n) (dD n) = true := by
  obtain ⟨a, b, c, d, e⟩ := date_num n
  have := date_year n h1 h2
  rw [vld_iff]; exact ⟨this.1, this.2, a, b, c, d⟩
theorem cum_lt (y m m' : Int) (h1 : 1 ≤ m) (h2 : m < m') (h3 : m' ≤ 12) : cum y m + dim y m ≤ cum y m' := by
  rw [← cum_succ y m h1 (by omega)]
  have key : ∀ k : Nat, ∀ a : Int, 1 ≤ a → a + k ≤ 12 → cum y a ≤ cum y (a + k) := by
    intro k
    induction k with
    | zero => intro a _ _; simp
    | succ k ih =>
      intro a ha hk
      have i := ih a ha (by omega)
      have s := cum_succ y (a + k) (by omega) (by omega)
      have b := dim_bd y (a + k) (by omega) (by omega)
      have e : a + ((k + 1 : Nat) : Int) = a + k + 1 := by omega
      rw [e]; omega
  have := key (m' - (m + 1)).toNat (m + 1) (by omega) (by omega)
  have e : m + 1 + ((m' - (m + 1)).toNat : Int) = m' := by omega
  rw [e] at this; exact this
theorem num_inj {y m d y' m' d' : Int} (h1 : 1 ≤ m) (h2 : m ≤ 12) (h3 : 1 ≤ d) (h4 : d ≤ dim y m) (g1 : 1 ≤ m') (g2 : m' ≤ 12) (g3 : 1 ≤ d') (g4 : d' ≤ dim y' m')
    (h : num y m d = num y' m' d') : y = y' ∧ m = m' ∧ d = d' := by
  have a := num_lt h1 h2 h3 h4
  have b := num_lt g1 g2 g3 g4
  have hy : y = y' := by
    rcases Int.lt_trichotomy y y' with l | l | l
    · have := jan_le (a := y + 1) (b := y') (by omega); omega
    · exact l
    · have := jan_le (a := y' + 1) (b := y) (by omega); omega
  subst hy
  have hm : m = m' := by
    rcases Int.lt_trichotomy m m' with l | l | l
    · have := cum_lt y m m' h1 l g2; unfold num at h; omega
    · exact l
    · have := cum_lt y m' m g1 l h2; unfold num at h; omega
  subst hm
  unfold num at h
  refine ⟨rfl, rfl, by omega⟩
end Go.Proofs.Ytlonanlogdokfaa.Cal
