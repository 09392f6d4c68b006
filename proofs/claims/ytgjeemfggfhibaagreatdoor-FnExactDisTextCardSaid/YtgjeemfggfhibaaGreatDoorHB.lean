/- The tokens of lines, and what a right line is told to be. -/
import Derived.Test.YtgjeemfggfhibaaGreatDoorG17
import Derived.Test.YtgjeemfggfhibaaGreatDoorHA
import Derived.Test.YtgjeemfggfhibaaGreatDoorGA
set_option linter.unusedVariables false
set_option linter.unusedSimpArgs false
set_option pp.deepTerms.threshold 6
set_option pp.deepTerms false
set_option maxRecDepth 4000
namespace Go.Proofs.YtgjeemfggfhibaaGreatDoorFw
open Go Go.RowKit
theorem TermP.good : ∀ (d : Nat) (e : ExprV), TermP d true e → e.good
  | 0, e, h => absurd h (by simp [TermP])
  | d + 1, .mk k n s l, h => by
    rw [TermP] at h
    rw [ExprV.good]
    obtain ⟨h1, h2, h3⟩ := h
    have h2 := h2 rfl
    refine ⟨?_, ?_⟩
    · rcases h1 with h1 | h1 | h1 | h1 | h1 | h1
      · left; omega
      · left; omega
      · left; omega
      · right; left; omega
      · right; right; omega
      · omega
    · have : ∀ l : List ExprV, (∀ e ∈ l, TermP d true e) → ExprV.goodL l := by
        intro l
        induction l with
        | nil => intro _; trivial
        | cons a t ih => intro h; exact ⟨TermP.good d a (h a (by simp)), ih (fun e he => h e (by simp [he]))⟩
      exact this l h3
theorem ArgB.ok_facts (a : ArgB) (h : a.ok) : (0 ≤ a.f ∧ a.f ≤ 11) ∧ (0 ≤ a.r ∧ a.r ≤ 7) ∧ (6 ≤ a.f → (ExprV.mk a.k a.n a.s a.l).good) := by
  rcases h with h | h | h
  · exact ⟨⟨by omega, by omega⟩, ⟨by omega, by omega⟩, fun h6 => by omega⟩
  · exact ⟨⟨by omega, by omega⟩, ⟨by omega, by omega⟩, fun _ => TermP.good _ _ h.2.2.2.2⟩
  · exact ⟨⟨by omega, by omega⟩, ⟨by omega, by omega⟩, fun _ => TermP.good _ _ h.2.2.2⟩
def dotT (s : Str) : TokV := ⟨3, 0, s⟩
def insT (op n : Int) (A B : List TokV) (L : List (List TokV)) : List TokV :=
  if op ≤ 6 then keptT (opS op) :: (A ++ [markT [44]] ++ B)
  else if op ≤ 14 then keptT (opS op) :: B
  else if op = 15 then keptT (opS op) :: ([keptT (regS n)] ++ [markT [44]] ++ B)
  else if op = 16 then [keptT (opS op), keptT (regS n)]
  else if op = 22 then [keptT (opS op)]
  else keptT (opS op) :: L.getD 0 []
def LineV.toks : LineV → List TokV
  | .mk k s op sf sr sk sn ss sl df dr dk dn ds dl n l =>
    if k = 1 then [nameT s, markT [58]] else if k = 2 then [nameT s, markT [61]] ++ sepL (termsT l)
    else if k = 3 then insT op n (argT sf sr (ExprV.mk sk sn ss sl).toks) (argT df dr (ExprV.mk dk dn ds dl).toks) (termsT l)
    else if k = 4 then dotT [46, 119, 111, 114, 100] :: sepL (termsT l) else if k = 5 then dotT [46, 98, 108, 107, 119] :: sepL (termsT l)
    else if k = 6 then (if n = 1 then [dotT [46, 115, 101, 99, 116], nameT s, markT [44], nameT [111, 118, 101, 114]] else [dotT [46, 115, 101, 99, 116], nameT s])
    else if k = 7 then dotT [46, 103, 108, 111, 98, 108] :: sepL (termsT l) else if k = 8 then dotT [46, 101, 110, 100] :: sepL (termsT l) else []
theorem InsLP.facts {op n : Int} {c : Nat} {so do_ sn dn pl : Prop} (h : InsLP op so do_ sn dn n c pl) :
    (1 ≤ op ∧ op ≤ 23) ∧ (op ≤ 6 → so) ∧ (op ≤ 15 → do_) ∧ (15 ≤ op → op ≤ 16 → 0 ≤ n ∧ n ≤ 7) ∧ (17 ≤ op → op ≠ 22 → c = 1) ∧ (c = 0 ∨ pl) := by
  rcases h with h | h | h | ⟨h1, h2, h | h | h⟩
  · exact ⟨by omega, fun _ => h.2.1, fun _ => h.2.2.1, fun _ _ => by omega, fun _ _ => by omega, .inl (by omega)⟩
  · exact ⟨by omega, fun _ => by omega, fun _ => h.2.2.1, fun _ _ => by omega, fun _ _ => by omega, .inl (by omega)⟩
  · exact ⟨by omega, fun _ => by omega, fun _ => h.2.2.1, fun _ _ => by omega, fun _ _ => by omega, .inl (by omega)⟩
  · exact ⟨by omega, fun _ => by omega, fun _ => by omega, fun _ _ => by omega, fun _ _ => by omega, .inl (by omega)⟩
  · exact ⟨by omega, fun _ => by omega, fun _ => by omega, fun _ _ => by omega, fun _ _ => by omega, .inl (by omega)⟩
  · exact ⟨by omega, fun _ => by omega, fun _ => by omega, fun _ _ => by omega, fun _ _ => by omega, .inr h.2.2.2⟩
theorem lineB_facts {k : Int} {s : Str} {op n : Int} {c : Nat} {sn dn nm pl nl ib : Bool} (h : lineB k s op n c sn dn nm pl nl ib = true) :
    (0 ≤ k ∧ k ≤ 8) ∧ (k = 3 → ib = true) ∧ (k ≠ 3 → c = 0 ∨ pl = true ∨ nl = true) ∧ (k = 2 → c = 1) ∧ (k = 0 ∨ k = 1 ∨ k = 6 ∨ k = 8 → c = 0) := by
  unfold lineB at h
  by_cases c1 : (k == 3) = true
  · rw [if_pos c1] at h
    rw [beq_iff_eq] at c1
    simp only [Bool.and_eq_true] at h
    exact ⟨by omega, fun _ => h.2, fun hc => absurd c1 hc, fun _ => by omega, fun _ => by omega⟩
  rw [if_neg c1] at h
  by_cases c2 : (op != 0) = true
  · rw [if_pos c2] at h; cases h
  rw [if_neg c2] at h
  by_cases c4 : sn = false
  · rw [if_pos c4] at h; cases h
  rw [if_neg c4] at h
  by_cases c5 : dn = false
  · rw [if_pos c5] at h; cases h
  rw [if_neg c5] at h
  simp only [beq_iff_eq] at c1
  have hk3 : k = 3 → ib = true := fun e => absurd e c1
  by_cases d0 : (k == 0) = true
  · rw [if_pos d0] at h
    simp only [beq_iff_eq, Bool.and_eq_true, decide_eq_true_eq] at d0 h
    exact ⟨by omega, hk3, fun _ => .inl (by omega), fun _ => by omega, fun _ => by omega⟩
  rw [if_neg d0] at h
  by_cases d8 : (k == 8) = true
  · rw [if_pos d8] at h
    simp only [beq_iff_eq, Bool.and_eq_true, decide_eq_true_eq] at d8 h
    exact ⟨by omega, hk3, fun _ => .inl (by omega), fun _ => by omega, fun _ => by omega⟩
  rw [if_neg d8] at h
  by_cases d1 : (k == 1) = true
  · rw [if_pos d1] at h
    simp only [beq_iff_eq, Bool.and_eq_true, decide_eq_true_eq] at d1 h
    exact ⟨by omega, hk3, fun _ => .inl (by omega), fun _ => by omega, fun _ => by omega⟩
  rw [if_neg d1] at h
  by_cases d2 : (k == 2) = true
  · rw [if_pos d2] at h
    simp only [beq_iff_eq, Bool.and_eq_true, decide_eq_true_eq] at d2 h
    exact ⟨by omega, hk3, fun _ => .inr (.inl h.2.2.2), fun _ => by omega, fun _ => by omega⟩
  rw [if_neg d2] at h
  by_cases d4 : (k == 4) = true
  · rw [if_pos d4] at h
    simp only [beq_iff_eq, Bool.and_eq_true, decide_eq_true_eq] at d4 h
    exact ⟨by omega, hk3, fun _ => .inr (.inl h.2.2.2), fun _ => by omega, fun _ => by omega⟩
  rw [if_neg d4] at h
  by_cases d5 : (k == 5) = true
  · rw [if_pos d5] at h
    simp only [beq_iff_eq, Bool.and_eq_true, decide_eq_true_eq] at d5 h
    exact ⟨by omega, hk3, fun _ => .inr (.inl h.2.2.2), fun _ => by omega, fun _ => by omega⟩
  rw [if_neg d5] at h
  by_cases d6 : (k == 6) = true
  · rw [if_pos d6] at h
    simp only [beq_iff_eq, Bool.and_eq_true, decide_eq_true_eq] at d6 h
    exact ⟨by omega, hk3, fun _ => .inl (by omega), fun _ => by omega, fun _ => by omega⟩
  rw [if_neg d6] at h
  by_cases d7 : (k == 7) = true
  · rw [if_pos d7] at h
    simp only [beq_iff_eq, Bool.and_eq_true, decide_eq_true_eq] at d7 h
    exact ⟨by omega, hk3, fun _ => .inr (.inr h.2.2), fun _ => by omega, fun _ => by omega⟩
  rw [if_neg d7] at h
  cases h
theorem okB_facts {k : Int} {s : Str} {op : Int} {sf sr sk sn : Int} {ss : Str} {sl : List ExprV} {df dr dk dn : Int} {ds : Str} {dl : List ExprV} {n : Int} {l : List ExprV}
    (h : LineV.okB (.mk k s op sf sr sk sn ss sl df dr dk dn ds dl n l) = true) :
    (0 ≤ k ∧ k ≤ 8) ∧ (∀ e ∈ l, e.good) ∧ (k = 2 → l.length = 1) ∧ (k = 0 ∨ k = 1 ∨ k = 6 ∨ k = 8 → l.length = 0) ∧
    (k = 3 → (1 ≤ op ∧ op ≤ 23) ∧ (op ≤ 6 → (0 ≤ sf ∧ sf ≤ 11) ∧ (0 ≤ sr ∧ sr ≤ 7) ∧ (6 ≤ sf → (ExprV.mk sk sn ss sl).good)) ∧
      (op ≤ 15 → (0 ≤ df ∧ df ≤ 11) ∧ (0 ≤ dr ∧ dr ≤ 7) ∧ (6 ≤ df → (ExprV.mk dk dn ds dl).good)) ∧ (15 ≤ op → op ≤ 16 → 0 ≤ n ∧ n ≤ 7) ∧ (17 ≤ op → op ≠ 22 → l.length = 1)) := by
  rw [LineV.okB] at h
  obtain ⟨h1, h2, h3, h4, h5⟩ := lineB_facts h
  have hI : k = 3 → InsLP op (ArgB.mk sf sr sk sn ss sl).ok (ArgB.mk df dr dk dn ds dl).ok (ArgB.mk sf sr sk sn ss sl).no (ArgB.mk df dr dk dn ds dl).no n l.length (∀ e ∈ l, TermP 6 true e) := fun e => of_decide_eq_true (h2 e)
  refine ⟨h1, ?_, h4, h5, fun e => ?_⟩
  · have nilg : l.length = 0 → ∀ e ∈ l, e.good := by
      intro h0 e he
      rw [List.eq_nil_of_length_eq_zero h0] at he
      simp at he
    by_cases c : k = 3
    · rcases (InsLP.facts (hI c)).2.2.2.2.2 with h | h
      · exact nilg h
      · exact fun e he => TermP.good _ _ (h e he)
    · rcases h3 c with h | h | h
      · exact nilg h
      · exact fun e he => TermP.good _ _ (of_decide_eq_true h e he)
      · exact fun e he => TermP.good _ _ ((of_decide_eq_true h).1 e he).1
  · obtain ⟨f1, f2, f3, f4, f5, -⟩ := InsLP.facts (hI e)
    exact ⟨f1, fun h => ArgB.ok_facts _ (f2 h), fun h => ArgB.ok_facts _ (f3 h), f4, f5⟩
end Go.Proofs.YtgjeemfggfhibaaGreatDoorFw
namespace Go.Proofs.YtgjeemfggfhibaaGreatDoorFw
open Go Go.RowKit
theorem getD_len (n : Nat) : ∀ (l : List Str) (i : Nat), (∀ x ∈ l, x.length ≤ n) → (l.getD i []).length ≤ n
  | [], i, _ => by simp
  | a :: r, 0, h => by simpa using h a (by simp)
  | a :: r, i + 1, h => by simpa using getD_len n r i (fun x hx => h x (by simp [hx]))
theorem regS_len (r : Int) : (regS r).length ≤ 8 := getD_len 8 _ _ (by decide)
theorem opS_len (r : Int) : (opS r).length ≤ 8 := getD_len 8 _ _ (by decide)
theorem txtW_len (l : List TokV) : l.length ≤ txtW l := by
  induction l with
  | nil => simp
  | cons x r ih => simp only [List.length_cons, txtW]; omega
theorem txtW_cons (x : TokV) (l : List TokV) : txtW (x :: l) = (tokW x).length + 1 + txtW l := rfl
theorem txtW_nil : txtW [] = 0 := rfl
theorem tokW_mark (s : Str) : tokW (markT s) = s := by simp [tokW, markT]
theorem tokW_name (s : Str) : tokW (nameT s) = s := by simp [tokW, nameT]
theorem tokW_kept (s : Str) : tokW (keptT s) = s := by simp [tokW, keptT]
theorem tokW_dot (s : Str) : tokW (dotT s) = s := by simp [tokW, dotT]
theorem tokW_num (n : Int) (s : Str) : (tokW ⟨2, n, s⟩).length ≤ 6 := by simpa [tokW] using octW_len n
theorem signT_len (k : Int) : (signT k).length = 1 := by unfold signT; repeat' split
                                                         all_goals rfl
theorem toks_txtW : ∀ e : ExprV, e.good → txtW e.toks ≤ 10 * e.tot + 10 := by
  refine ExprV.ind fun k n s l ih => ?_
  intro hg
  rw [ExprV.good] at hg
  have ht : (ExprV.mk k n s l).tot = s.length + (l.length + ExprV.totL l) := rfl
  rw [ExprV.toks]
  split
  · have := tokW_num n []
    simp only [txtW_cons, txtW_nil]; omega
  split
  · simp only [txtW_cons, txtW_nil, tokW_name]; omega
  split
  · simp only [txtW_cons, txtW_nil, tokW_mark, List.length_cons, List.length_nil]; omega
  split
  · rename_i h1 h2 h3 h4
    match l, hg with
    | [], hg => simp at hg; omega
    | e0 :: r, hg =>
      have := ih e0 (by simp) hg.2.1
      simp only [ExprV.toksL, List.getD_cons_zero, List.length_cons, List.length_nil, ExprV.totL, txtW_cons, tokW_mark] at *
      omega
  · rename_i h1 h2 h3 h4
    match l, hg with
    | [], hg => simp at hg; omega
    | [e0], hg => simp at hg; omega
    | e0 :: e1 :: r, hg =>
      have a0 := ih e0 (by simp) hg.2.1
      have a1 := ih e1 (by simp) hg.2.2.1
      simp only [ExprV.toksL, List.getD_cons_zero, List.getD_cons_succ, List.length_cons, List.length_nil, ExprV.totL, txtW_cons, txtW_app, txtW_nil, tokW_mark, signT_len] at *
      omega
theorem argT_txtW (f r : Int) (T : List TokV) : txtW (argT f r T) ≤ txtW T + 40 := by
  have := regS_len r
  unfold argT
  repeat' split
  all_goals first | omega | (simp only [rdT, txtW_cons, txtW_app, txtW_nil, tokW_mark, tokW_kept, List.length_cons, List.length_nil]; omega)
theorem termsT_txtW (l : List ExprV) (hg : ∀ e ∈ l, e.good) : txtW (sepL (termsT l)) ≤ 10 * ExprV.totL l + 12 * l.length := by
  have h : ∀ r : List ExprV, (∀ e ∈ r, e.good) → txtW ((termsT r).flatMap fun y => markT [44] :: y) ≤ 10 * ExprV.totL r + 12 * r.length := by
    intro r
    induction r with
    | nil => intro _; simp [termsT, txtW]
    | cons a t ih =>
      intro hg
      have h1 := ih (fun e he => hg e (by simp [he]))
      have h2 := toks_txtW a (hg a (by simp))
      simp only [termsT, List.map_cons, List.flatMap_cons, txtW_app, txtW_cons, tokW_mark, ExprV.totL, List.length_cons, List.length_nil] at *
      omega
  cases l with
  | nil => simp [termsT, sepL, txtW]
  | cons a t =>
    have h1 := h t (fun e he => hg e (by simp [he]))
    have h2 := toks_txtW a (hg a (by simp))
    simp only [termsT, List.map_cons, sepL, txtW_app, ExprV.totL, List.length_cons] at *
    omega
theorem argT_txtW2 (f r : Int) (e : ExprV) (h0 : 0 ≤ f) (h : 6 ≤ f → e.good) : txtW (argT f r e.toks) ≤ 10 * e.tot + 50 := by
  by_cases c : 6 ≤ f
  · have h1 := argT_txtW f r e.toks
    have h2 := toks_txtW e (h c)
    omega
  · have h1 := regS_len r
    unfold argT
    repeat' split
    all_goals first | omega | (simp only [rdT, txtW_cons, txtW_app, txtW_nil, tokW_mark, tokW_kept, List.length_cons, List.length_nil]; omega)
theorem insT_txtW (op n : Int) (A B : List TokV) (L : List (List TokV)) (a b c : Nat) (hA : op ≤ 6 → txtW A ≤ a) (hB : op ≤ 15 → txtW B ≤ b) (hL : txtW (L.getD 0 []) ≤ c) : txtW (insT op n A B L) ≤ a + b + c + 40 := by
  have ho := opS_len op
  have hr := regS_len n
  unfold insT
  by_cases c1 : op ≤ 6
  · rw [if_pos c1]; simp only [txtW_cons, txtW_app, txtW_nil, tokW_mark, tokW_kept, List.length_cons, List.length_nil]; have := hA c1; have := hB (by omega); omega
  rw [if_neg c1]
  by_cases c2 : op ≤ 14
  · rw [if_pos c2]; simp only [txtW_cons, tokW_kept]; have := hB (by omega); omega
  rw [if_neg c2]
  by_cases c3 : op = 15
  · rw [if_pos c3]; simp only [txtW_cons, txtW_app, txtW_nil, tokW_mark, tokW_kept, List.length_cons, List.length_nil]; have := hB (by omega); omega
  rw [if_neg c3]
  by_cases c4 : op = 16
  · rw [if_pos c4]; simp only [txtW_cons, txtW_nil, tokW_kept]; omega
  rw [if_neg c4]
  by_cases c5 : op = 22
  · rw [if_pos c5]; simp only [txtW_cons, txtW_nil, tokW_kept]; omega
  rw [if_neg c5]
  simp only [txtW_cons, tokW_kept]; omega
theorem lineT_txtW (x : LineV) (h : x.okB = true) : txtW x.toks ≤ 12 * x.tot + 200 := by
  obtain ⟨k, s, op, sf, sr, sk, sn, ss, sl, df, dr, dk, dn, ds, dl, n, l⟩ := x
  obtain ⟨h1, h2, h3, h4, h5⟩ := okB_facts h
  clear h
  have hT := termsT_txtW l h2
  have ht : (LineV.mk k s op sf sr sk sn ss sl df dr dk dn ds dl n l).tot = s.length + ((ExprV.mk sk sn ss sl).tot + ((ExprV.mk dk dn ds dl).tot + (l.length + ExprV.totL l))) := rfl
  have hI : k = 3 → txtW (insT op n (argT sf sr (ExprV.mk sk sn ss sl).toks) (argT df dr (ExprV.mk dk dn ds dl).toks) (termsT l)) ≤ (10 * (ExprV.mk sk sn ss sl).tot + 50) + (10 * (ExprV.mk dk dn ds dl).tot + 50) + (10 * ExprV.totL l + 12 * l.length) + 40 := by
    intro c3
    obtain ⟨f1, f2, f3, f4, f5⟩ := h5 c3
    refine insT_txtW _ _ _ _ _ _ _ _ (fun h6 => argT_txtW2 _ _ _ (f2 h6).1.1 (f2 h6).2.2) (fun h6 => argT_txtW2 _ _ _ (f3 h6).1.1 (f3 h6).2.2) (Nat.le_trans ?_ hT)
    cases termsT l with
    | nil => simp [txtW]
    | cons a t => simp [sepL, txtW_app]
  rw [ht, LineV.toks]
  clear ht h5 h2 h3 h4
  generalize insT op n (argT sf sr (ExprV.mk sk sn ss sl).toks) (argT df dr (ExprV.mk dk dn ds dl).toks) (termsT l) = IT at *
  generalize sepL (termsT l) = SL at *
  generalize (ExprV.mk sk sn ss sl).tot = ta at *
  generalize (ExprV.mk dk dn ds dl).tot = tb at *
  generalize ExprV.totL l = tl at *
  generalize l.length = c at *
  by_cases c1 : k = 1
  · rw [if_pos c1]; simp only [txtW_cons, txtW_nil, tokW_name, tokW_mark, List.length_cons, List.length_nil]; omega
  rw [if_neg c1]
  by_cases c2 : k = 2
  · rw [if_pos c2]; simp only [txtW_cons, txtW_nil, txtW_app, tokW_name, tokW_mark, List.length_cons, List.length_nil]; omega
  rw [if_neg c2]
  by_cases c3 : k = 3
  · rw [if_pos c3]; have := hI c3; omega
  rw [if_neg c3]
  by_cases c4 : k = 4
  · rw [if_pos c4]; simp only [txtW_cons, tokW_dot, List.length_cons, List.length_nil]; omega
  rw [if_neg c4]
  by_cases c5 : k = 5
  · rw [if_pos c5]; simp only [txtW_cons, tokW_dot, List.length_cons, List.length_nil]; omega
  rw [if_neg c5]
  by_cases c6 : k = 6
  · rw [if_pos c6]
    by_cases c : n = 1
    · rw [if_pos c]; simp only [txtW_cons, txtW_nil, tokW_dot, tokW_name, tokW_mark, List.length_cons, List.length_nil]; omega
    · rw [if_neg c]; simp only [txtW_cons, txtW_nil, tokW_dot, tokW_name, tokW_mark, List.length_cons, List.length_nil]; omega
  rw [if_neg c6]
  by_cases c7 : k = 7
  · rw [if_pos c7]; simp only [txtW_cons, tokW_dot, List.length_cons, List.length_nil]; omega
  rw [if_neg c7]
  by_cases c8 : k = 8
  · rw [if_pos c8]; simp only [txtW_cons, tokW_dot, List.length_cons, List.length_nil]; omega
  rw [if_neg c8]
  simp [txtW]
noncomputable def LineV.text (x : LineV) : Str := if x.okB = true then lineW x.toks else []
noncomputable def textW : List LineV → Str
  | [] => []
  | x :: r => x.text ++ [10] ++ textW r
theorem textW_app (a b : List LineV) : textW (a ++ b) = textW a ++ textW b := by
  induction a with
  | nil => rfl
  | cons x r ih => simp only [List.cons_append, textW, ih, List.append_assoc]
theorem textW_snoc (a : List LineV) (x : LineV) : textW (a ++ [x]) = textW a ++ (x.text ++ [10]) := by rw [textW_app, textW, textW]; simp
theorem text_len (x : LineV) : x.text.length ≤ 12 * x.tot + 200 := by
  unfold LineV.text
  split
  · rename_i h
    exact Nat.le_trans (lineW_len _) (lineT_txtW x h)
  · simp
theorem textW_len (l : List LineV) (hx : ∀ x ∈ l, x.tot ≤ 1048576) : (textW l).length ≤ 16777216 * l.length := by
  induction l with
  | nil => simp [textW]
  | cons x r ih =>
    have h1 := ih (fun y hy => hx y (by simp [hy]))
    have h2 := hx x (by simp)
    have h3 := text_len x
    simp only [textW, List.length_append, List.length_cons, List.length_nil]
    omega
end Go.Proofs.YtgjeemfggfhibaaGreatDoorFw
