/- Heights in order, lists joined: what the reference's and the program's functions come to, for all lists; no Go and no memory here. -/
import Derived.Test.YtohhlkehglahhaaGreatDoorAx1
import Derived.Test.YtohhlkehglahhaaGreatDoorAx3
import Derived.Test.YtohhlkehglahhaaGreatDoorAx8
import Derived.Test.YtohhlkehglahhaaGreatDoorGivC
import Derived.Test.YtohhlkehglahhaaGreatDoorPureFiles
namespace Go.Proofs.YtohhlkehglahhaaGreatDoor.Pure
open Go.RowKit Go.Proofs.YtohhlkehglahhaaGreatDoor.A Go.Proofs.YtohhlkehglahhaaGreatDoorW.PrintWords Go.Proofs.YtohhlkehglahhaaGreatDoorW.PrintLast Go.Proofs.YtohhlkehglahhaaGreatDoorW.PrintMore
set_option linter.unusedVariables false
set_option linter.unusedSimpArgs false
def insAt (out : List Int) (h : Int) : Nat → List Int
  | 0 => h :: out
  | p + 1 => if out.getD p 0 > h then insAt out h p else out.take (p + 1) ++ h :: out.drop (p + 1)
def ins (out : List Int) (h : Int) : List Int := insAt out h out.length
def ordL (l : List Int) : List Int := l.foldl ins []
theorem insAt_perm (out : List Int) (h : Int) : ∀ p, (insAt out h p).Perm (h :: out)
  | 0 => List.Perm.refl _
  | p + 1 => by
    unfold insAt
    split
    · exact insAt_perm out h p
    · have := List.perm_middle (a := h) (l₁ := out.take (p + 1)) (l₂ := out.drop (p + 1))
      rwa [List.take_append_drop] at this
theorem insAt_len (out : List Int) (h : Int) (p : Nat) : (insAt out h p).length = out.length + 1 := by
  rw [(insAt_perm out h p).length_eq]; rfl
theorem ins_perm (out : List Int) (h : Int) : (ins out h).Perm (h :: out) := insAt_perm out h _
theorem ord_perm_acc (l : List Int) : ∀ out, (l.foldl ins out).Perm (out ++ l) := by
  induction l with
  | nil => intro out; simp
  | cons h l ih =>
    intro out
    simp only [List.foldl_cons]
    refine (ih (ins out h)).trans ?_
    refine ((ins_perm out h).append_right l).trans ?_
    exact List.perm_middle.symm
theorem ord_perm (l : List Int) : (ordL l).Perm l := by have := ord_perm_acc l []; rwa [List.nil_append] at this
theorem ord_len (l : List Int) : (ordL l).length = l.length := (ord_perm l).length_eq
def Srt (l : List Int) : Prop := l.Pairwise (· ≤ ·)
theorem srt_take {l : List Int} (h : Srt l) (n : Nat) : Srt (l.take n) := List.Pairwise.sublist (List.take_sublist n l) h
theorem insAt_srt (out : List Int) (h : Int) (hs : Srt out) : ∀ p, p ≤ out.length → (∀ x ∈ out.drop p, h < x) → Srt (insAt out h p)
  | 0, _, hd => by
    show Srt (h :: out)
    exact List.pairwise_cons.2 ⟨fun x hx => Int.le_of_lt (hd x (by simpa using hx)), hs⟩
  | p + 1, hp, hd => by
    unfold insAt
    have hpl : p < out.length := by omega
    have hg : out.getD p 0 = out[p] := by rw [List.getD_eq_getElem?_getD, List.getElem?_eq_getElem hpl]; rfl
    split
    · rename_i c
      refine insAt_srt out h hs p (by omega) fun x hx => ?_
      rw [List.drop_eq_getElem_cons hpl] at hx
      rcases List.mem_cons.1 hx with rfl | hx
      · rw [hg] at c; exact c
      · exact hd x hx
    · rename_i c
      rw [hg] at c
      have htk : out.take (p + 1) = out.take p ++ [out[p]] := List.take_succ_eq_append_getElem hpl
      have hall : ∀ x ∈ out.take (p + 1), x ≤ h := by
        intro x hx
        have hst := srt_take hs (p + 1)
        rw [htk] at hx hst
        rcases List.mem_append.1 hx with hx | hx
        · have := (List.pairwise_append.1 hst).2.2 x hx out[p] (by simp)
          omega
        · rw [List.mem_singleton.1 hx]; omega
      refine List.pairwise_append.2 ⟨srt_take hs _, ?_, ?_⟩
      · refine List.pairwise_cons.2 ⟨fun x hx => Int.le_of_lt (hd x hx), ?_⟩
        exact List.Pairwise.sublist (List.drop_sublist _ _) hs
      · intro x hx y hy
        rcases List.mem_cons.1 hy with rfl | hy
        · exact hall x hx
        · have h1 := hall x hx
          have h2 := hd y hy
          omega
theorem ins_srt (out : List Int) (h : Int) (hs : Srt out) : Srt (ins out h) := insAt_srt out h hs _ (Nat.le_refl _) (by simp)
theorem ord_srt_acc (l : List Int) : ∀ out, Srt out → Srt (l.foldl ins out) := by
  induction l with
  | nil => intro out h; exact h
  | cons h l ih => intro out hs; exact ih _ (ins_srt out h hs)
theorem ord_srt (l : List Int) : Srt (ordL l) := ord_srt_acc l [] List.Pairwise.nil
theorem srt_one : ∀ {a b : List Int}, Srt a → Srt b → a.Perm b → a = b
  | [], b, _, _, h => by rw [List.nil_perm.1 h]
  | x :: a, [], _, _, h => by have := h.length_eq; simp at this
  | x :: a, y :: b, ha, hb, h => by
    have hx : x ∈ y :: b := h.mem_iff.1 (by simp)
    have hy : y ∈ x :: a := h.mem_iff.2 (by simp)
    have e : x = y := by
      have h1 : y ≤ x := by
        rcases List.mem_cons.1 hx with e | hx
        · omega
        · exact (List.pairwise_cons.1 hb).1 x hx
      have h2 : x ≤ y := by
        rcases List.mem_cons.1 hy with e | hy
        · omega
        · exact (List.pairwise_cons.1 ha).1 y hy
      omega
    subst e
    rw [srt_one (List.pairwise_cons.1 ha).2 (List.pairwise_cons.1 hb).2 h.cons_inv]
theorem own_ok (l : List Int) (h : l.length < 17592186044416) : Qi2.f l = some l := by
  unfold Qi2.f
  rw [Option.bind_some, if_pos (by simpa using h)]
  simp
theorem ord_in (L : List Int) (n i : Int) (x : List Int) (h : Int) (hx : x.length ≤ 1000) (p : Nat) : ∀ K : Nat, p ≤ x.length → p < K → ∃ k, K ≤ k + p + 1 ∧ Qf1.l1 K x h (p : Int) L n i = Qf1.l0 k (insAt x h p) L n (wrap64 (i + 1)) := by
  induction p with
  | zero =>
    intro K hp hk
    obtain ⟨K, rfl⟩ := fuel1 (show 0 < K by omega)
    refine ⟨K, by omega, ?_⟩
    simp only [Qf1.l1]
    rw [if_neg (by omega), if_pos (by omega), if_pos (by omega), Int.toNat_natCast, own_ok _ (by simp), Option.bind_some, if_pos (by simp), Option.bind_some, Option.bind_some, if_pos (by simp; omega)]
    simp [insAt]
  | succ p ih =>
    intro K hp hk
    obtain ⟨K, rfl⟩ := fuel1 (show 0 < K by omega)
    simp only [Qf1.l1]
    have e1 : wrap64 (((p + 1 : Nat) : Int) - 1) = (p : Int) := by rw [w_in (by omega) (by omega)]; omega
    rw [if_pos (by omega), e1, if_pos (by omega), if_pos (by omega), rd_D]
    by_cases c : x.getD p 0 > h
    · rw [if_pos c]
      obtain ⟨k, hk2, hh⟩ := ih K (by omega) (by omega)
      refine ⟨k, by omega, ?_⟩
      rw [hh]
      simp only [insAt]
      rw [if_pos c]
    · rw [if_neg c]
      refine ⟨K, by omega, ?_⟩
      rw [if_pos (by omega), if_pos (by omega), Int.toNat_natCast, own_ok _ (by simp; omega), Option.bind_some, if_pos (by simp; omega), Option.bind_some, Option.bind_some, if_pos (by simp; omega)]
      simp only [insAt]
      rw [if_neg c, List.append_assoc]
      rfl
theorem ord_loop (L : List Int) (hL : L.length ≤ 1000) (d : Nat) : ∀ (K i : Nat) (x : List Int), i + d = L.length → x.length = i → 1002 * d < K → Qf1.l0 K x L (L.length : Int) (i : Int) = some ((L.drop i).foldl ins x) := by
  induction d with
  | zero =>
    intro K i x h hx hk
    obtain ⟨K, rfl⟩ := fuel1 (show 0 < K by omega)
    simp only [Qf1.l0]
    rw [if_neg (by omega), List.drop_eq_nil_of_le (by omega)]
    rfl
  | succ d ih =>
    intro K i x h hx hk
    obtain ⟨K, rfl⟩ := fuel1 (show 0 < K by omega)
    have hi : i < L.length := by omega
    simp only [Qf1.l0]
    rw [if_pos (by omega), if_pos (by omega), if_pos (by omega), rd_at L i hi]
    obtain ⟨k, hk2, hh⟩ := ord_in L (L.length : Int) (i : Int) x L[i] (by omega) x.length K (Nat.le_refl _) (by omega)
    rw [hh, w_nat (by omega), ih k (i + 1) _ (by omega) (by rw [insAt_len]; omega) (by omega), List.drop_eq_getElem_cons hi]
    rfl
theorem ord_ok (L : List Int) (hL : L.length ≤ 1000) (k : Nat) (hk : 2000000 < k) : Qf1.f k L = some (ordL L) := by
  unfold Qf1.f
  exact ord_loop L hL L.length k 0 [] (by omega) rfl (by omega)
def flatL : List (List Int) → List Int
  | [] => []
  | r :: l => r ++ flatL l
theorem flat_len (l : List (List Int)) (M : Nat) (h : ∀ r ∈ l, r.length ≤ M) : (flatL l).length ≤ l.length * M := by
  induction l with
  | nil => simp [flatL]
  | cons r l ih =>
    have h1 := h r (by simp)
    have h2 := ih (fun x hx => h x (by simp [hx]))
    simp only [flatL, List.length_cons, List.length_append]
    rw [Nat.succ_mul]
    omega
theorem fall_loop (L : List (List Int)) (hl : L.length ≤ 8) (hr : ∀ r ∈ L, r.length ≤ 8) (d : Nat) : ∀ (k i : Nat) (x : List Int), i + d = L.length → x.length ≤ 8 * i → 2000001 + d < k → Qp1.l0 k x L (L.length : Int) (i : Int) = some (ordL (x ++ flatL (L.drop i))) := by
  induction d with
  | zero =>
    intro k i x h hx hk
    obtain ⟨k, rfl⟩ := fuel1 (show 0 < k by omega)
    simp only [Qp1.l0]
    rw [if_neg (by omega), ord_ok x (by omega) k (by omega), List.drop_eq_nil_of_le (by omega)]
    simp [flatL]
  | succ d ih =>
    intro k i x h hx hk
    obtain ⟨k, rfl⟩ := fuel1 (show 0 < k by omega)
    have hi : i < L.length := by omega
    have hri := hr L[i] (List.getElem_mem hi)
    simp only [Qp1.l0]
    rw [if_pos (by omega), if_pos (by omega), if_pos (by omega), rl_at L i hi, if_pos (by omega), w_nat (by omega), ih k (i + 1) _ (by omega) (by simp; omega) (by omega), List.drop_eq_getElem_cons hi]
    simp only [flatL, List.append_assoc]
theorem fall_ok (L : List (List Int)) (hl : L.length ≤ 8) (hr : ∀ r ∈ L, r.length ≤ 8) (k : Nat) (hk : 3000000 < k) : Qp1.f k L = some (ordL (flatL L)) := by
  unfold Qp1.f
  have := fall_loop L hl hr L.length k 0 [] (by omega) (by simp) (by omega)
  simpa using this
theorem cat_out (L : List (List Int)) (hl : L.length ≤ 8) (hr : ∀ r ∈ L, r.length ≤ 8) (d : Nat) : ∀ (k i : Nat) (x : List Int), i + d = L.length → x.length ≤ 8 * i → d < k → slices_Concat_int_int.l1 k x L (L.length : Int) (i : Int) = some (x ++ flatL (L.drop i)) := by
  induction d with
  | zero =>
    intro k i x h hx hk
    obtain ⟨k, rfl⟩ := fuel1 (show 0 < k by omega)
    simp only [slices_Concat_int_int.l1]
    rw [if_neg (by omega), List.drop_eq_nil_of_le (by omega)]
    simp [flatL]
  | succ d ih =>
    intro k i x h hx hk
    obtain ⟨k, rfl⟩ := fuel1 (show 0 < k by omega)
    have hi : i < L.length := by omega
    have hri := hr L[i] (List.getElem_mem hi)
    simp only [slices_Concat_int_int.l1]
    rw [if_pos (by omega), if_pos (by omega), if_pos (by omega), rl_at L i hi, if_pos (by omega), w_nat (by omega), ih k (i + 1) _ (by omega) (by simp; omega) (by omega), List.drop_eq_getElem_cons hi]
    simp only [flatL, List.append_assoc]
theorem cat_loop (L : List (List Int)) (hl : L.length ≤ 8) (hr : ∀ r ∈ L, r.length ≤ 8) (d : Nat) : ∀ (k i s : Nat), i + d = L.length → s ≤ 8 * i → 20 + d < k → slices_Concat_int_int.l0 k L (s : Int) L (L.length : Int) (i : Int) = some (flatL L) := by
  induction d with
  | zero =>
    intro k i s h hs hk
    obtain ⟨k, rfl⟩ := fuel1 (show 0 < k by omega)
    simp only [slices_Concat_int_int.l0]
    have g : slices_Grow_int_int.f ([] : List Int) (s : Int) = some [] := by
      unfold slices_Grow_int_int.f
      rw [if_pos ⟨rfl, by omega, by omega⟩]
    rw [if_neg (by omega), g, Option.bind_some]
    have := cat_out L hl hr L.length k 0 [] (by omega) (by simp) (by omega)
    simpa using this
  | succ d ih =>
    intro k i s h hs hk
    obtain ⟨k, rfl⟩ := fuel1 (show 0 < k by omega)
    have hi : i < L.length := by omega
    have hri := hr L[i] (List.getElem_mem hi)
    simp only [slices_Concat_int_int.l0]
    have e : wrap64 ((s : Int) + (L[i].length : Int)) = ((s + L[i].length : Nat) : Int) := by rw [w_in (by omega) (by omega)]; omega
    rw [if_pos (by omega), if_pos (by omega), if_pos (by omega), rl_at L i hi, e, if_neg (by omega), w_nat (by omega)]
    exact ih k (i + 1) _ (by omega) (by omega) (by omega)
theorem cat_ok (L : List (List Int)) (hl : L.length ≤ 8) (hr : ∀ r ∈ L, r.length ≤ 8) (k : Nat) (hk : 100 < k) : slices_Concat_int_int.f k L = some (flatL L) := by
  unfold slices_Concat_int_int.f
  exact cat_loop L hl hr L.length k 0 0 (by omega) (by omega) (by omega)
end Go.Proofs.YtohhlkehglahhaaGreatDoor.Pure
