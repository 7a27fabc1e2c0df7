/- A verified evaluator of the program's code, part 4 of 4: what it computes of a call is what the call does; rules for what it computes.
   Conditions: none; it speaks of every program. -/
import Derived.Test.YtpjohgnhmjceiaaGreatDoorAx3
set_option linter.unusedVariables false
set_option linter.unusedSectionVars false
set_option linter.unusedSimpArgs false
namespace Go.Proofs.YtpjohgnhmjceiaaGreatDoor.AX
abbrev CallT := FuncId → List AV → TB → Nat → V1
abbrev RunT := IC → TA → TB → Nat → R
def leCall (c c' : CallT) : Prop := ∀ f l t nx v t' nx', c f l t nx = .ok v t' nx' → c' f l t nx = .ok v t' nx'
def leRun (r r' : RunT) : Prop := ∀ c T t nx, (r c T t nx).isBad = false → r' c T t nx = r c T t nx
theorem what_mono {c c' : CallT} (h : leCall c c') (w : What) (T : TA) (t : TB) (nx : Nat) (v : AV) (t' : TB) (nx' : Nat) (e : w.run c T t nx = .ok v t' nx') : w.run c' T t nx = .ok v t' nx' := by
 cases w with
 | op o => exact e
 | callF f args =>
   simp only [What.run] at e ⊢
   cases hx : evs args T with
   | none => rw [hx] at e; cases e
   | some l => rw [hx] at e; exact h _ _ _ _ _ _ _ e
 | callV x args =>
   simp only [What.run] at e ⊢
   split at e
   · rename_i f a b l h1 h2; try rw [h1, h2]
     exact h _ _ _ _ _ _ _ e
   · cases e
 | callM tab x args =>
   simp only [What.run] at e ⊢
   split at e
   · rename_i ty u l h1 h2
     try rw [h1, h2]
     try dsimp only
     cases hx : findM ty tab with
     | none => rw [hx] at e; cases e
     | some p =>
       rw [hx] at e
       obtain ⟨f, m⟩ := p
       dsimp only at e ⊢
       cases hy : recvA m u t with
       | none => rw [hy] at e; cases e
       | some r => rw [hy] at e; exact h _ _ _ _ _ _ _ e
   · cases e
theorem reg_mono {c c' : CallT} (h : leCall c c') : ∀ (l : List Ins) (T : TA) (t : TB) (nx : Nat), (regA c l T t nx).isBad = false → regA c' l T t nx = regA c l T t nx
 | [], T, t, nx, _ => rfl
 | i :: l, T, t, nx, e => by
   have ih := reg_mono h l
   show (match wantA i.grd T with
    | some true => (match i.what.run c' T t nx with
      | .ok v t nx => regA c' l (putD T i.dst v) t nx
      | .no l => R.bad ((match i.dst with | some d => d | none => 999) :: l))
    | some false => regA c' l (putD T i.dst .undef) t nx
    | none => R.bad [998]) = (match wantA i.grd T with
    | some true => (match i.what.run c T t nx with
      | .ok v t nx => regA c l (putD T i.dst v) t nx
      | .no l => R.bad ((match i.dst with | some d => d | none => 999) :: l))
    | some false => regA c l (putD T i.dst .undef) t nx
    | none => R.bad [998])
   have e' : (match wantA i.grd T with
    | some true => (match i.what.run c T t nx with
      | .ok v t nx => regA c l (putD T i.dst v) t nx
      | .no l => R.bad ((match i.dst with | some d => d | none => 999) :: l))
    | some false => regA c l (putD T i.dst .undef) t nx
    | none => R.bad [998]).isBad = false := e
   cases hw : wantA i.grd T with
   | none => rfl
   | some b =>
     rw [hw] at e'
     cases b with
     | false => exact ih _ _ _ e'
     | true =>
       dsimp only at e' ⊢
       cases hr : i.what.run c T t nx with
       | no k => rw [hr] at e'; cases e'
       | ok v t1 n1 =>
         rw [hr] at e'
         rw [what_mono h _ _ _ _ _ _ _ hr]
         exact ih _ _ _ e'
theorem draw_mono {c c' : CallT} (h : leCall c c') (ops : List DIns) : ∀ (n : Nat) (L : List Nat) (F : List (DIns × AV)) (G : List GB) (T : TA) (t : TB) (nx : Nat), (drawA c ops n L F G T t nx).isBad = false → drawA c' ops n L F G T t nx = drawA c ops n L F G T t nx
 | 0, L, F, G, T, t, nx, _ => rfl
 | n + 1, L, F, G, T, t, nx, e => by
   have ih := draw_mono h ops n
   unfold drawA at e ⊢
   split at e
   · rename_i i v hx; (try rw [hx]); exact ih _ _ _ _ _ _ e
   · rename_i hx
     try rw [hx]
     try dsimp only
     split at e
     · rename_i hy; first | rfl | (rw [hy]; done) | rw [hy]
     · rename_i k hy
       try rw [hy]
       try dsimp only
       split at e
       · rename_i g hz
         try rw [hz]
         try dsimp only
         split at e
         · rename_i hs; (try rw [hs]); exact ih _ _ _ _ _ _ e
         · cases e
       · rename_i hz
         try rw [hz]
         try dsimp only at e ⊢
         split at e
         · cases e
         · rename_i hs
           try rw [hs]
           try dsimp only
           split at e
           · cases e
           · rename_i v t1 n1 hr
             cases hw : wantA k.ins.grd T with
             | none => rw [hw] at hr; cases hr
             | some b =>
               rw [hw] at hr
               cases b with
               | true =>
                 dsimp only at hr ⊢
                 rw [what_mono h _ _ _ _ _ _ _ hr]
                 dsimp only
                 split at e
                 · rename_i h1; (try rw [h1]); exact ih _ _ _ _ _ _ e
                 · cases e
               | false =>
                 dsimp only at hr ⊢
                 cases hr
                 split at e
                 · rename_i h1; (try rw [h1]); exact ih _ _ _ _ _ _ e
                 · cases e
     · rename_i x y rs hy
       try rw [hy]
       try dsimp only
       split at e
       · rename_i i v k hz
         try rw [hz]
         try dsimp only
         split at e
         · rename_i hs; (try rw [hs]); exact ih _ _ _ _ _ _ e
         · cases e
       · cases e
theorem call_mono {tab : Nat → Option AFn} {r r' : RunT} (h : leRun r r') : leCall (callA tab r) (callA tab r') := by
 intro f l t nx v t' nx' e
 unfold callA at e ⊢
 cases ht : tab f with
 | none => rw [ht] at e; cases e
 | some af =>
   rw [ht] at e
   cases af with
   | prim g => exact e
   | code np nt body res =>
     dsimp only at e ⊢
     cases hb : Nat.beq (lLen l) np with
     | false => rw [hb] at e; cases e
     | true =>
       rw [hb] at e
       dsimp only at e ⊢
       have hn : (r body (slots l) t nx).isBad = false := by
        cases hx : r body (slots l) t nx with
        | bad k => rw [hx] at e; cases e
        | _ => rfl
       rw [h _ _ _ _ hn]
       exact e
theorem code_mono {tab : Nat → Option AFn} {r r' : RunT} (h : leRun r r') : ∀ (c : IC) (T : TA) (t : TB) (nx : Nat), (codeA tab r c T t nx).isBad = false → codeA tab r' c T t nx = codeA tab r c T t nx
 | .skip, _, _, _, _ => rfl
 | .reg l, T, t, nx, e => reg_mono (call_mono h) l T t nx e
 | .draw l, T, t, nx, e => draw_mono (call_mono h) l 200 [] [] [] T t nx e
 | .seq a b, T, t, nx, e => by
   have e' : (match codeA tab r a T t nx with | R.ok T t nx => codeA tab r b T t nx | x => x).isBad = false := e
   show (match codeA tab r' a T t nx with | R.ok T t nx => codeA tab r' b T t nx | x => x) = (match codeA tab r a T t nx with | R.ok T t nx => codeA tab r b T t nx | x => x)
   cases hx : codeA tab r a T t nx with
   | bad k => rw [hx] at e'; cases e'
   | ok T1 t1 n1 =>
     rw [code_mono h a T t nx (by rw [hx]; rfl), hx]
     rw [hx] at e'
     exact code_mono h b _ _ _ e'
   | ret T1 t1 n1 => rw [code_mono h a T t nx (by rw [hx]; rfl), hx]
   | exit k T1 t1 n1 => rw [code_mono h a T t nx (by rw [hx]; rfl), hx]
 | .cond x a b, T, t, nx, e => by
   have e' : (match x.ev T with
    | some (.bool true) => codeA tab r a T t nx
    | some (.bool false) => codeA tab r b T t nx
    | _ => R.bad [997]).isBad = false := e
   show (match x.ev T with
    | some (.bool true) => codeA tab r' a T t nx
    | some (.bool false) => codeA tab r' b T t nx
    | _ => R.bad [997]) = (match x.ev T with
    | some (.bool true) => codeA tab r a T t nx
    | some (.bool false) => codeA tab r b T t nx
    | _ => R.bad [997])
   split at e'
   · exact code_mono h a _ _ _ e'
   · exact code_mono h b _ _ _ e'
   · rfl
 | .block id c, T, t, nx, e => by
   have e' : (match codeA tab r c T t nx with
    | R.exit j T t nx => (match Nat.beq j id with | true => R.ok T t nx | false => R.exit j T t nx)
    | x => x).isBad = false := e
   show (match codeA tab r' c T t nx with
    | R.exit j T t nx => (match Nat.beq j id with | true => R.ok T t nx | false => R.exit j T t nx)
    | x => x) = (match codeA tab r c T t nx with
    | R.exit j T t nx => (match Nat.beq j id with | true => R.ok T t nx | false => R.exit j T t nx)
    | x => x)
   have hn : (codeA tab r c T t nx).isBad = false := by
    cases hx : codeA tab r c T t nx with
    | bad k => rw [hx] at e'; cases e'
    | _ => rfl
   rw [code_mono h c T t nx hn]
 | .loop c, T, t, nx, e => by
   have e' : (match codeA tab r c T t nx with | R.ok T t nx => r (.loop c) T t nx | x => x).isBad = false := e
   show (match codeA tab r' c T t nx with | R.ok T t nx => r' (.loop c) T t nx | x => x) = (match codeA tab r c T t nx with | R.ok T t nx => r (.loop c) T t nx | x => x)
   cases hx : codeA tab r c T t nx with
   | bad k => rw [hx] at e'; cases e'
   | ok T1 t1 n1 =>
     rw [code_mono h c T t nx (by rw [hx]; rfl), hx]
     rw [hx] at e'
     exact h _ _ _ _ e'
   | ret T1 t1 n1 => rw [code_mono h c T t nx (by rw [hx]; rfl), hx]
   | exit k T1 t1 n1 => rw [code_mono h c T t nx (by rw [hx]; rfl), hx]
 | .exit id, _, _, _, _ => rfl
 | .ret, _, _, _, _ => rfl
 | .bad, _, _, _, _ => rfl
variable (tab : Nat → Option AFn)
theorem run_mono1 : ∀ n, leRun (runA tab n) (runA tab (n + 1))
 | 0 => fun c T t nx e => by cases e
 | n + 1 => fun c T t nx e => code_mono (run_mono1 n) c T t nx e
theorem run_mono {n m : Nat} (h : n ≤ m) : leRun (runA tab n) (runA tab m) := by
 induction h with
 | refl => exact fun _ _ _ _ _ => rfl
 | step _ ih =>
   intro c T t nx e
   have e1 := ih c T t nx e
   rw [← e1]
   exact run_mono1 tab _ c T t nx (by rw [e1]; exact e)
theorem callA_mono {n m : Nat} (h : n ≤ m) : leCall (callA tab (runA tab n)) (callA tab (runA tab m)) := call_mono (run_mono tab h)
def WR (l : List Ins) (T : TA) (t : TB) (nx : Nat) (Q : TA → TB → Nat → Prop) : Prop := ∃ n T' t' nx', regA (callA tab (runA tab n)) l T t nx = .ok T' t' nx' ∧ Q T' t' nx'
def WC (c : IC) (T : TA) (t : TB) (nx : Nat) (Q : R → Prop) : Prop := ∃ n r, codeA tab (runA tab n) c T t nx = r ∧ r.isBad = false ∧ Q r
def WF (f : FuncId) (args : List AV) (t : TB) (nx : Nat) (Q : AV → TB → Nat → Prop) : Prop := ∃ n v t' nx', callA tab (runA tab n) f args t nx = .ok v t' nx' ∧ Q v t' nx'
variable {tab} {T : TA} {t : TB} {nx : Nat} {Q : R → Prop} {QR : TA → TB → Nat → Prop} {QF : AV → TB → Nat → Prop}
theorem regA_cons_ (call : CallT) (i : Ins) (l : List Ins) (T : TA) (t : TB) (nx : Nat) : regA call (i :: l) T t nx = (match wantA i.grd T with
 | some true => (match i.what.run call T t nx with
   | .ok v t nx => regA call l (putD T i.dst v) t nx
   | .no l => R.bad ((match i.dst with | some d => d | none => 999) :: l))
 | some false => regA call l (putD T i.dst .undef) t nx
 | none => R.bad [998]) := rfl
theorem WR.nil (h : QR T t nx) : WR tab [] T t nx QR := ⟨0, T, t, nx, rfl, h⟩
theorem WR.op {d : Option Nat} {g : Option (Nat × Bool)} {o : IOp} {l : List Ins} {v : AV} {t' : TB} {nx' : Nat} (hg : wantA g T = some true) (ho : o.run T t nx = .ok v t' nx') (h : WR tab l (putD T d v) t' nx' QR) : WR tab (⟨d, g, .op o⟩ :: l) T t nx QR := by
 obtain ⟨n, T1, t1, n1, e, hq⟩ := h
 refine ⟨n, T1, t1, n1, ?_, hq⟩
 rw [regA_cons_]
 dsimp only
 rw [hg]
 dsimp only [What.run]
 rw [ho]
 exact e
theorem WR.skip {d : Option Nat} {g : Option (Nat × Bool)} {w : What} {l : List Ins} (hg : wantA g T = some false) (h : WR tab l (putD T d .undef) t nx QR) : WR tab (⟨d, g, w⟩ :: l) T t nx QR := by
 obtain ⟨n, T1, t1, n1, e, hq⟩ := h
 refine ⟨n, T1, t1, n1, ?_, hq⟩
 rw [regA_cons_]
 dsimp only
 rw [hg]
 exact e
theorem WR.call {d : Option Nat} {g : Option (Nat × Bool)} {w : What} {l : List Ins} {f : FuncId} {vs : List AV} (hg : wantA g T = some true) (hw : ∀ c : CallT, w.run c T t nx = c f vs t nx) (h : WF tab f vs t nx (fun v t' nx' => WR tab l (putD T d v) t' nx' QR)) : WR tab (⟨d, g, w⟩ :: l) T t nx QR := by
 obtain ⟨n, v, t1, n1, e1, m, T2, t2, n2, e2, hq⟩ := h
 refine ⟨max n m, T2, t2, n2, ?_, hq⟩
 rw [regA_cons_]
 dsimp only
 rw [hg]
 dsimp only
 rw [hw, callA_mono tab (Nat.le_max_left n m) _ _ _ _ _ _ _ e1]
 dsimp only
 rw [reg_mono (callA_mono tab (Nat.le_max_right n m)) _ _ _ _ (by rw [e2]; rfl), e2]
theorem WF.mono {f : FuncId} {args : List AV} {QF' : AV → TB → Nat → Prop} (h : WF tab f args t nx QF) (k : ∀ v t' nx', QF v t' nx' → QF' v t' nx') : WF tab f args t nx QF' := by
 obtain ⟨n, v, t', nx', e, hq⟩ := h
 exact ⟨n, v, t', nx', e, k _ _ _ hq⟩
theorem WC.mono {c : IC} {Q' : R → Prop} (h : WC tab c T t nx Q) (k : ∀ r, Q r → Q' r) : WC tab c T t nx Q' := by
 obtain ⟨n, r, e, hb, hq⟩ := h
 exact ⟨n, r, e, hb, k _ hq⟩
theorem WC.skip (h : Q (.ok T t nx)) : WC tab .skip T t nx Q := ⟨0, _, rfl, rfl, h⟩
theorem WC.exit {id : Nat} (h : Q (.exit id T t nx)) : WC tab (.exit id) T t nx Q := ⟨0, _, rfl, rfl, h⟩
theorem WC.ret (h : Q (.ret T t nx)) : WC tab .ret T t nx Q := ⟨0, _, rfl, rfl, h⟩
theorem WC.reg {l : List Ins} (h : WR tab l T t nx (fun T t nx => Q (.ok T t nx))) : WC tab (.reg l) T t nx Q := by
 obtain ⟨n, T1, t1, n1, e, hq⟩ := h
 exact ⟨n, _, e, rfl, hq⟩
theorem code_up {n m : Nat} (h : n ≤ m) {c : IC} {r : R} (e : codeA tab (runA tab n) c T t nx = r) (hb : r.isBad = false) : codeA tab (runA tab m) c T t nx = r := by
 rw [code_mono (run_mono tab h) c T t nx (by rw [e]; exact hb), e]
theorem WC.seq {a b : IC} (h : WC tab a T t nx (fun r => match r with | .ok T t nx => WC tab b T t nx Q | r => Q r)) : WC tab (.seq a b) T t nx Q := by
 obtain ⟨n, r, e, hb, hq⟩ := h
 cases r with
 | bad k => cases hb
 | ok T1 t1 n1 =>
   obtain ⟨m, r2, e2, hb2, hq2⟩ := hq
   refine ⟨max n m, r2, ?_, hb2, hq2⟩
   show (match codeA tab (runA tab (max n m)) a T t nx with | R.ok T t nx => codeA tab (runA tab (max n m)) b T t nx | x => x) = _
   rw [code_up (Nat.le_max_left n m) e rfl]
   exact code_up (Nat.le_max_right n m) e2 hb2
 | ret T1 t1 n1 =>
   refine ⟨n, _, ?_, rfl, hq⟩
   show (match codeA tab (runA tab n) a T t nx with | R.ok T t nx => codeA tab (runA tab n) b T t nx | x => x) = _
   rw [e]
 | exit k T1 t1 n1 =>
   refine ⟨n, _, ?_, rfl, hq⟩
   show (match codeA tab (runA tab n) a T t nx with | R.ok T t nx => codeA tab (runA tab n) b T t nx | x => x) = _
   rw [e]
theorem WC.cond {x : Opd} {a b : IC} {c : Bool} (hx : x.ev T = some (.bool c)) (h : if c = true then WC tab a T t nx Q else WC tab b T t nx Q) : WC tab (.cond x a b) T t nx Q := by
 cases c with
 | true =>
   obtain ⟨n, r, e, hb, hq⟩ := (show WC tab a T t nx Q from by simpa using h)
   refine ⟨n, r, ?_, hb, hq⟩
   show (match x.ev T with
    | some (.bool true) => codeA tab (runA tab n) a T t nx
    | some (.bool false) => codeA tab (runA tab n) b T t nx
    | _ => R.bad [997]) = _
   rw [hx]; exact e
 | false =>
   obtain ⟨n, r, e, hb, hq⟩ := (show WC tab b T t nx Q from by simpa using h)
   refine ⟨n, r, ?_, hb, hq⟩
   show (match x.ev T with
    | some (.bool true) => codeA tab (runA tab n) a T t nx
    | some (.bool false) => codeA tab (runA tab n) b T t nx
    | _ => R.bad [997]) = _
   rw [hx]; exact e
theorem WC.block {id : Nat} {c : IC} (h : WC tab c T t nx (fun r => match r with | .exit j T t nx => if j = id then Q (.ok T t nx) else Q (.exit j T t nx) | r => Q r)) : WC tab (.block id c) T t nx Q := by
 obtain ⟨n, r, e, hb, hq⟩ := h
 cases r with
 | bad k => cases hb
 | ok T1 t1 n1 =>
   refine ⟨n, _, ?_, rfl, hq⟩
   show (match codeA tab (runA tab n) c T t nx with
    | R.exit j T t nx => (match Nat.beq j id with | true => R.ok T t nx | false => R.exit j T t nx)
    | x => x) = _
   rw [e]
 | ret T1 t1 n1 =>
   refine ⟨n, _, ?_, rfl, hq⟩
   show (match codeA tab (runA tab n) c T t nx with
    | R.exit j T t nx => (match Nat.beq j id with | true => R.ok T t nx | false => R.exit j T t nx)
    | x => x) = _
   rw [e]
 | exit j T1 t1 n1 =>
   by_cases hj : j = id
   · refine ⟨n, .ok T1 t1 n1, ?_, rfl, by simpa [hj] using hq⟩
     show (match codeA tab (runA tab n) c T t nx with
      | R.exit j T t nx => (match Nat.beq j id with | true => R.ok T t nx | false => R.exit j T t nx)
      | x => x) = _
     rw [e]
     dsimp only
     rw [show Nat.beq j id = true from by simp [hj]]
   · refine ⟨n, .exit j T1 t1 n1, ?_, rfl, by simpa [hj] using hq⟩
     show (match codeA tab (runA tab n) c T t nx with
      | R.exit j T t nx => (match Nat.beq j id with | true => R.ok T t nx | false => R.exit j T t nx)
      | x => x) = _
     rw [e]
     dsimp only
     cases hk : Nat.beq j id with
     | true => exact absurd (by simpa using hk) hj
     | false => rfl
theorem WC.loop1 {c : IC} (h : WC tab c T t nx (fun r => match r with | .ok T t nx => WC tab (.loop c) T t nx Q | r => Q r)) : WC tab (.loop c) T t nx Q := by
 obtain ⟨n, r, e, hb, hq⟩ := h
 cases r with
 | bad k => cases hb
 | ok T1 t1 n1 =>
   obtain ⟨m, r2, e2, hb2, hq2⟩ := hq
   refine ⟨max n (m + 1), r2, ?_, hb2, hq2⟩
   show (match codeA tab (runA tab (max n (m + 1))) c T t nx with | R.ok T t nx => runA tab (max n (m + 1)) (.loop c) T t nx | x => x) = _
   rw [code_up (Nat.le_max_left n (m + 1)) e rfl]
   have e3 : runA tab (m + 1) (.loop c) T1 t1 n1 = r2 := e2
   have := run_mono tab (Nat.le_max_right n (m + 1)) (.loop c) T1 t1 n1 (by rw [e3]; exact hb2)
   dsimp only
   rw [this, e3]
 | ret T1 t1 n1 =>
   refine ⟨n, _, ?_, rfl, hq⟩
   show (match codeA tab (runA tab n) c T t nx with | R.ok T t nx => runA tab n (.loop c) T t nx | x => x) = _
   rw [e]
 | exit k T1 t1 n1 =>
   refine ⟨n, _, ?_, rfl, hq⟩
   show (match codeA tab (runA tab n) c T t nx with | R.ok T t nx => runA tab n (.loop c) T t nx | x => x) = _
   rw [e]
theorem WC.loop {c : IC} (I : Nat → TA → TB → Nat → Prop) (h : ∀ m T t nx, I m T t nx → WC tab c T t nx (fun r => match r with | .ok T t nx => ∃ m', m' < m ∧ I m' T t nx | r => Q r)) (m : Nat) (h0 : I m T t nx) : WC tab (.loop c) T t nx Q := by
 induction m using Nat.strongRecOn generalizing T t nx with
 | ind m ih =>
   refine WC.loop1 ((h m T t nx h0).mono (fun r hr => ?_))
   cases r with
   | ok T1 t1 n1 => obtain ⟨m', hlt, hi⟩ := hr; exact ih m' hlt hi
   | _ => exact hr
theorem callA_code {f np nt n : Nat} {body : IC} {res : List Res} {args : List AV} (ht : tab f = some (.code np nt body res)) (hl : Nat.beq (lLen args) np = true) :
  callA tab (runA tab n) f args t nx = (match runA tab n body (slots args) t nx with
   | .ok T t nx => answer T t nx res
   | .ret T t nx => answer T t nx res
   | .bad l => .no (f :: l)
   | _ => .no [f]) := by
 unfold callA
 rw [ht]
 dsimp only
 rw [hl]
 dsimp only
 cases runA tab n body (slots args) t nx <;> rfl
theorem WF.code {f np nt : Nat} {body : IC} {res : List Res} {args : List AV} (ht : tab f = some (.code np nt body res)) (hl : Nat.beq (lLen args) np = true)
  (h : WC tab body (slots args) t nx (fun r => match r with
    | .ok T t nx => ∃ v, answer T t nx res = .ok v t nx ∧ QF v t nx
    | .ret T t nx => ∃ v, answer T t nx res = .ok v t nx ∧ QF v t nx
    | _ => False)) : WF tab f args t nx QF := by
 obtain ⟨n, r, e, hb, hq⟩ := h
 have e1 : runA tab (n + 1) body (slots args) t nx = r := e
 have hc := callA_code (t := t) (nx := nx) (n := n + 1) ht hl
 rw [e1] at hc
 cases r with
 | bad k => cases hb
 | ok T1 t1 n1 => obtain ⟨v, ha, hq⟩ := hq; exact ⟨n + 1, v, t1, n1, hc.trans ha, hq⟩
 | ret T1 t1 n1 => obtain ⟨v, ha, hq⟩ := hq; exact ⟨n + 1, v, t1, n1, hc.trans ha, hq⟩
 | exit k T1 t1 n1 => exact absurd hq id
end Go.Proofs.YtpjohgnhmjceiaaGreatDoor.AX
set_option linter.unusedVariables false
set_option linter.unusedSectionVars false
set_option linter.unusedSimpArgs false
namespace Go.Proofs.YtpjohgnhmjceiaaGreatDoor.AX
inductive HB where
 | row (l : List AV) (wr : Bool)
 | map (es : List (AV × AV × Nat)) (clk : Nat)
 | iter (m : Option Nat) (since : Nat) (seen : List Nat) (last : Nat)
noncomputable def vw : Blk → Option HB
 | .cells c n wr => (gets c n 0).map (fun l => .row l wr)
 | .map es clk => some (.map es clk)
 | .iter a b c d => some (.iter a b c d)
noncomputable def hv (t : TB) (b : Nat) : Option HB := (t.get b).bind vw
abbrev Hp := Nat → Option HB
def upd (H : Hp) (b : Nat) (x : Option HB) : Hp := fun c => if c = b then x else H c
theorem upd_same (H : Hp) (b : Nat) (x : Option HB) : upd H b x b = x := by simp [upd]
theorem upd_ne (H : Hp) (b c : Nat) (x : Option HB) (h : c ≠ b) : upd H b x c = H c := by simp [upd, h]
theorem hv_put (t : TB) (k : Option Blk) (b : Nat) : hv (t.put k b) = upd (hv t) b (k.bind vw) := by
 funext c
 unfold hv upd
 rw [Bt.get_put]
 split <;> rfl
theorem gets_iff {c : TA} : ∀ {n o : Nat} {l : List AV}, gets c n o = some l ↔ l.length = n ∧ ∀ i, i < n → c.get (o + i) = l[i]?
 | 0, o, l => by
   show some [] = some l ↔ _
   constructor
   · intro h; cases h; exact ⟨rfl, fun i hi => absurd hi (by omega)⟩
   · rintro ⟨h, -⟩; rw [List.eq_nil_of_length_eq_zero h]
 | n + 1, o, l => by
   have ih := @gets_iff c n (o + 1)
   have e : gets c (n + 1) o = (match c.get o with
    | some v => (match gets c n (o + 1) with | some l => some (v :: l) | none => none)
    | none => none) := rfl
   rw [e]
   constructor
   · intro h
     cases hv : c.get o with
     | none => rw [hv] at h; cases h
     | some v =>
       rw [hv] at h
       dsimp only at h
       cases hg : gets c n (o + 1) with
       | none => rw [hg] at h; cases h
       | some r =>
         rw [hg] at h
         cases h
         obtain ⟨h1, h2⟩ := ih.1 hg
         refine ⟨by simp [h1], fun i hi => ?_⟩
         cases i with
         | zero => simpa using hv
         | succ i => have := h2 i (by omega); rw [show o + (i + 1) = o + 1 + i from by omega, this]; rfl
   · rintro ⟨h1, h2⟩
     cases l with
     | nil => simp at h1
     | cons v r =>
       have h0 := h2 0 (by omega)
       rw [show o + 0 = o from rfl] at h0
       rw [h0]
       have hr : gets c n (o + 1) = some r := ih.2 ⟨by simpa using h1, fun i hi => by
        have := h2 (i + 1) (by omega)
        rw [show o + 1 + i = o + (i + 1) from by omega, this]; rfl⟩
       simp [hr]
theorem row_iff {t : TB} {b : Nat} {l : List AV} {wr : Bool} : hv t b = some (.row l wr) ↔ ∃ c, t.get b = some (.cells c l.length wr) ∧ ∀ i, i < l.length → c.get i = l[i]? := by
 unfold hv
 constructor
 · intro h
   cases hb : t.get b with
   | none => rw [hb] at h; cases h
   | some k =>
     rw [hb] at h
     cases k with
     | cells c n w =>
       have h' : (gets c n 0).map (fun l => HB.row l w) = some (.row l wr) := h
       cases hg : gets c n 0 with
       | none => rw [hg] at h'; cases h'
       | some r =>
         rw [hg] at h'
         cases h'
         obtain ⟨h1, h2⟩ := gets_iff.1 hg
         exact ⟨c, by rw [h1], fun i hi => by have := h2 i (by omega); simpa using this⟩
     | map es clk => cases h
     | iter a b c d => cases h
 · rintro ⟨c, h1, h2⟩
   rw [h1]
   show (gets c l.length 0).map _ = _
   rw [gets_iff.2 ⟨rfl, fun i hi => by rw [Nat.zero_add]; exact h2 i hi⟩]
   rfl
theorem map_iff {t : TB} {b : Nat} {es : List (AV × AV × Nat)} {clk : Nat} : hv t b = some (.map es clk) ↔ t.get b = some (.map es clk) := by
 unfold hv
 constructor
 · intro h
   cases hb : t.get b with
   | none => rw [hb] at h; cases h
   | some k =>
     rw [hb] at h
     cases k with
     | cells c n w =>
       have h' : (gets c n 0).map (fun l => HB.row l w) = some (.map es clk) := h
       cases hg : gets c n 0 with
       | none => rw [hg] at h'; cases h'
       | some r => rw [hg] at h'; cases h'
     | map es clk => cases h; rfl
     | iter a b c d => cases h
 · intro h; rw [h]; rfl
variable [Env] {T : TA} {t : TB} {nx : Nat}
def splice (l : List AV) (o : Nat) (us : List AV) : List AV := l.take o ++ us ++ l.drop (o + us.length)
theorem splice_len {l us : List AV} {o : Nat} (h : o + us.length ≤ l.length) : (splice l o us).length = l.length := by
 unfold splice; simp; omega
theorem splice_get {l us : List AV} {o : Nat} (h : o + us.length ≤ l.length) (i : Nat) : (splice l o us)[i]? = if o ≤ i ∧ i < o + us.length then us[i - o]? else l[i]? := by
 unfold splice
 by_cases h1 : i < o
 · rw [List.append_assoc, List.getElem?_append_left (by simp; omega), if_neg (by omega), List.getElem?_take, if_pos h1]
 · rw [List.append_assoc, List.getElem?_append_right (by simp; omega)]
   have e : (l.take o).length = o := by simp; omega
   rw [e]
   by_cases h2 : i < o + us.length
   · rw [if_pos ⟨by omega, h2⟩, List.getElem?_append_left (by omega)]
   · rw [if_neg (by omega), List.getElem?_append_right (by omega), List.getElem?_drop]
     congr 1; omega
theorem splice_one (l : List AV) (o : Nat) (v : AV) (h : o < l.length) : splice l o [v] = l.set o v := by
 apply List.ext_getElem?
 intro i
 rw [splice_get (by simp; omega), List.getElem?_set]
 by_cases e : o = i
 · subst e; simp [h]
 · rw [if_neg (by simp; omega), if_neg e]
theorem get_same {T : TA} {v : AV} {d : Nat} : (T.put (some v) d).get d = some v := by rw [Bt.get_put]; simp
theorem get_other {T : TA} {x : Option AV} {d j : Nat} {r : Option AV} (h : Nat.beq j d = false) (e : T.get j = r) : (T.put x d).get j = r := by
 rw [Bt.get_put, if_neg (fun h' => by subst h'; simp at h)]; exact e
theorem ev_t {i : Nat} {v : AV} (h : T.get i = some v) : (Opd.t i).ev T = some v := h
theorem ev_c {v : AV} : (Opd.c v).ev T = some v := rfl
theorem o_mov {x : Opd} {v : AV} (h : x.ev T = some v) : (IOp.mov x).run T t nx = .ok v t nx := by simp only [IOp.run]; rw [h]; exact retV_ok' v t nx
theorem o_load {x : Opd} {b o : Nat} {l : List AV} {wr : Bool} {v : AV} (h : x.ev T = some (.ptr b o)) (hb : hv t b = some (.row l wr)) (hl : l[o]? = some v) : (IOp.load x).run T t nx = .ok v t nx := by
 obtain ⟨c, h1, h2⟩ := row_iff.1 hb
 have ho : o < l.length := by
  rcases Nat.lt_or_ge o l.length with h' | h'
  · exact h'
  · rw [List.getElem?_eq_none h'] at hl; cases hl
 simp only [IOp.run, h, h1, h2 o ho, hl]
theorem gets_row {c : TA} {l : List AV} (h2 : ∀ i, i < l.length → c.get i = l[i]?) {n o : Nat} (h : o + n ≤ l.length) : gets c n o = some ((l.drop o).take n) := by
 rw [gets_iff]
 refine ⟨by simp; omega, fun i hi => ?_⟩
 rw [h2 _ (by omega), List.getElem?_take, if_pos hi, List.getElem?_drop]
theorem o_loadA {n : Nat} {x : Opd} {b o : Nat} {l us : List AV} {wr : Bool} (h : x.ev T = some (.ptr b o)) (hb : hv t b = some (.row l wr)) (ho : o + n ≤ l.length) (hu : (l.drop o).take n = us) : (IOp.loadA n x).run T t nx = .ok (.agg us) t nx := by
 obtain ⟨c, h1, h2⟩ := row_iff.1 hb
 simp only [IOp.run, h, h1, gets_row h2 ho, hu]
theorem store_at {b o : Nat} {l us : List AV} (hb : hv t b = some (.row l true)) (hc : allCell us = true) (ho : o + us.length ≤ l.length) : ∃ t', storeAt us b o t = some t' ∧ hv t' = upd (hv t) b (some (.row (splice l o us) true)) := by
 obtain ⟨c, h1, h2⟩ := row_iff.1 hb
 refine ⟨t.put (some (.cells (puts us o c) l.length true)) b, ?_, ?_⟩
 · unfold storeAt
   rw [h1]
   dsimp only
   rw [lLen_eq, show Nat.ble (Nat.add o us.length) l.length = true from by simpa using ho]
   dsimp only
   rw [hc]
 · rw [hv_put]
   congr 1
   show (gets (puts us o c) l.length 0).map _ = _
   rw [gets_iff.2 ⟨splice_len ho, fun i hi => ?_⟩]
   · rfl
   · rw [Nat.zero_add, puts_get, splice_get ho]
     split
     · rfl
     · exact h2 i hi
theorem o_store {n : Nat} {x y : Opd} {b o : Nat} {l : List AV} {u : AV} (h : x.ev T = some (.ptr b o)) (hy : y.ev T = some u) (hb : hv t b = some (.row l true)) (hn : u.cells.length = n) (hc : allCell u.cells = true) (ho : o + n ≤ l.length) :
  ∃ t', (IOp.store n x y).run T t nx = .ok .undef t' nx ∧ hv t' = upd (hv t) b (some (.row (splice l o u.cells) true)) := by
 obtain ⟨t', h1, h2⟩ := store_at (t := t) (b := b) (o := o) (us := u.cells) hb hc (by omega)
 refine ⟨t', ?_, h2⟩
 simp only [IOp.run, h, hy, lLen_eq, hn, h1]
 simp
theorem mk_row {cs : List AV} {f : Nat → AV} : ∃ t', mk cs t nx f = .ok (f nx) t' (nx + 1) ∧ hv t' = upd (hv t) nx (some (.row cs true)) := by
 refine ⟨newRow cs t nx, by unfold mk; rw [fNat_eq], ?_⟩
 unfold newRow
 rw [hv_put]
 congr 1
 show (gets (puts cs 0 .e) (lLen cs) 0).map _ = _
 rw [lLen_eq, (gets_iff (l := cs)).2 ⟨rfl, fun i hi => by rw [Nat.zero_add, puts_get, if_pos ⟨Nat.zero_le _, by omega⟩]; rfl⟩]
 rfl
theorem o_alloc {zs : List AV} : ∃ t', (IOp.alloc zs).run T t nx = .ok (.ptr nx 0) t' (nx + 1) ∧ hv t' = upd (hv t) nx (some (.row zs true)) := mk_row
theorem o_box {x : Opd} {v : AV} (h : x.ev T = some v) : ∃ t', (IOp.box x).run T t nx = .ok (.ptr nx 0) t' (nx + 1) ∧ hv t' = upd (hv t) nx (some (.row v.cells true)) := by
 simp only [IOp.run, h]; exact mk_row
theorem o_build {zs : List AV} {ps : List (Nat × Nat × Opd)} {cs : List AV} (h : fillA ps T zs = some cs) : (IOp.build zs ps).run T t nx = .ok (.agg cs) t nx := by simp only [IOp.run, h]
theorem o_bslice {sz n : Nat} {zs : List AV} {ps : List (Nat × Nat × Opd)} {cs : List AV} (h : fillA ps T (repl zs n) = some cs) : ∃ t', (IOp.bslice sz n zs ps).run T t nx = .ok (.slice nx 0 n n sz true) t' (nx + 1) ∧ hv t' = upd (hv t) nx (some (.row cs true)) := by
 simp only [IOp.run, h]; exact mk_row
theorem o_mkslice {sz : Nat} {zs : List AV} {x y : Opd} {k k' : IntKind} {l c : Nat} (hx : x.ev T = some (.int k (l : Int))) (hy : y.ev T = some (.int k' (c : Int))) (h1 : l ≤ c) (h2 : c * sz ≤ 65536) (hz : zs.length = sz) :
  ∃ t', (IOp.mkslice sz zs x y).run T t nx = .ok (.slice nx 0 l c sz true) t' (nx + 1) ∧ hv t' = upd (hv t) nx (some (.row (repl zs c) true)) := by
 have e1 : x.ev T = some (.int k (.ofNat l)) := hx
 have e2 : y.ev T = some (.int k' (.ofNat c)) := hy
 obtain ⟨t', h3, h4⟩ := mk_row (t := t) (nx := nx) (cs := repl zs c) (f := fun b => .slice b 0 l c sz true)
 refine ⟨t', ?_, h4⟩
 simp only [IOp.run, e1, e2]
 rw [show Nat.ble l c = true from by simpa using h1, show Nat.ble (Nat.mul c sz) 65536 = true from by simpa using h2, show Nat.beq (lLen zs) sz = true from by rw [lLen_eq, hz]; simp]
 simp only [fNat_eq, h3]
theorem o_nilck {x : Opd} {b o : Nat} (h : x.ev T = some (.ptr b o)) : (IOp.nilck x).run T t nx = .ok (.ptr b o) t nx := by simp only [IOp.run, h]
theorem o_faddr {x : Opd} {b o off : Nat} (h : x.ev T = some (.ptr b o)) : (IOp.faddr x off).run T t nx = .ok (.ptr b (o + off)) t nx := by simp only [IOp.run, h, fNat_eq]; rfl
theorem o_iaddr {sz : Nat} {x y : Opd} {b o n c i : Nat} {ex : Bool} {k : IntKind} (hx : x.ev T = some (.slice b o n c sz ex)) (hy : y.ev T = some (.int k (i : Int))) (hi : i < n) : (IOp.iaddr sz x y).run T t nx = .ok (.ptr b (o + i * sz)) t nx := by
 have e : y.ev T = some (.int k (.ofNat i)) := hy
 simp only [IOp.run, hx, e, idx]
 rw [show Nat.beq sz sz = true from by simp, show Nat.ble (Nat.succ i) n = true from by simp; omega]
 simp only [fNat_eq]
 rfl
theorem o_len_slice {x : Opd} {b o n c sz : Nat} {ex : Bool} (h : x.ev T = some (.slice b o n c sz ex)) : (IOp.len .slc x).run T t nx = .ok (.int .i64 (n : Int)) t nx := by simp only [IOp.run, h]; rfl
theorem o_len_nslice {x : Opd} (h : x.ev T = some .nslice) : (IOp.len .slc x).run T t nx = .ok (.int .i64 ((0 : Nat) : Int)) t nx := by simp only [IOp.run, h]; rfl
theorem o_len_str {x : Opd} {s : List Nat} (h : x.ev T = some (.str s)) : (IOp.len .str x).run T t nx = .ok (.int .i64 (s.length : Int)) t nx := by
 simp only [IOp.run, h]; rw [lLen_eq]; exact retV_ok' _ t nx
theorem o_extr {x : Opd} {vs : List AV} {i : Nat} {v : AV} (h : x.ev T = some (.tup vs)) (hi : vs[i]? = some v) : (IOp.extr x i).run T t nx = .ok v t nx := by simp only [IOp.run, h, lGet_eq, hi]
theorem o_not {x : Opd} {b : Bool} (h : x.ev T = some (.bool b)) : (IOp.not x).run T t nx = .ok (.bool (!b)) t nx := by cases b <;> simp only [IOp.run, h] <;> rfl
theorem o_pick_t {c a b : Opd} {v : AV} (hc : c.ev T = some (.bool true)) (h : a.ev T = some v) : (IOp.pick c a b).run T t nx = .ok v t nx := by simp only [IOp.run, hc, h]; exact retV_ok' v t nx
theorem o_pick_f {c a b : Opd} {v : AV} (hc : c.ev T = some (.bool false)) (h : b.ev T = some v) : (IOp.pick c a b).run T t nx = .ok v t nx := by simp only [IOp.run, hc, h]; exact retV_ok' v t nx
theorem wrap_in (n : Int) (h1 : -9223372036854775808 ≤ n) (h2 : n ≤ 9223372036854775807) : wrapF .i64 n = n := by
 cases n with
 | ofNat m =>
   have h : m ≤ 9223372036854775807 := by have : (m : Int) ≤ 9223372036854775807 := h2; omega
   unfold wrapF
   dsimp only
   rw [show Nat.ble m (kMax .i64) = true from by simpa [kMax] using h]
 | negSucc m =>
   have h : m ≤ 9223372036854775807 := by rw [Int.negSucc_eq] at h1; omega
   unfold wrapF
   dsimp only
   rw [show IntKind.i64.signed = true from rfl]
   dsimp only
   rw [show Nat.ble m (kMax .i64) = true from by simpa [kMax] using h]
theorem o_bin {op : BinOp} {x y : Opd} {k k' : IntKind} {a b : Int} {v : AV} (hx : x.ev T = some (.int k a)) (hy : y.ev T = some (.int k' b)) (hk : Nat.beq (kN k) (kN k') = true) (h1 : op ≠ .shl) (h2 : op ≠ .shr) (h : intOp op k a b = some v) : (IOp.bin op x y).run T t nx = .ok v t nx := by
 simp only [IOp.run, hx, hy]
 cases op <;> first
  | exact absurd rfl h1
  | exact absurd rfl h2
  | ((try dsimp only); rw [hk]; dsimp only; rw [h]; exact retV_ok' v t nx)
section
variable {x y : Opd} {a b : Int} (hx : x.ev T = some (.int .i64 a)) (hy : y.ev T = some (.int .i64 b))
include hx hy
theorem o_add (h1 : -9223372036854775808 ≤ a + b) (h2 : a + b ≤ 9223372036854775807) : (IOp.bin .add x y).run T t nx = .ok (.int .i64 (a + b)) t nx :=
 o_bin hx hy rfl (by decide) (by decide) (by show some (AV.int .i64 (wrapF .i64 (a + b))) = _; rw [wrap_in _ h1 h2])
theorem o_sub (h1 : -9223372036854775808 ≤ a - b) (h2 : a - b ≤ 9223372036854775807) : (IOp.bin .sub x y).run T t nx = .ok (.int .i64 (a - b)) t nx :=
 o_bin hx hy rfl (by decide) (by decide) (by show some (AV.int .i64 (wrapF .i64 (a - b))) = _; rw [wrap_in _ h1 h2])
theorem o_mul (h1 : -9223372036854775808 ≤ a * b) (h2 : a * b ≤ 9223372036854775807) : (IOp.bin .mul x y).run T t nx = .ok (.int .i64 (a * b)) t nx :=
 o_bin hx hy rfl (by decide) (by decide) (by show some (AV.int .i64 (wrapF .i64 (a * b))) = _; rw [wrap_in _ h1 h2])
theorem o_eql : (IOp.bin .eql x y).run T t nx = .ok (.bool (decide (a = b))) t nx := o_bin hx hy rfl (by decide) (by decide) (by show some (AV.bool (iEq a b)) = _; rw [iEq_eq])
theorem o_neq : (IOp.bin .neq x y).run T t nx = .ok (.bool (!decide (a = b))) t nx := o_bin hx hy rfl (by decide) (by decide) (by show some (AV.bool (!iEq a b)) = _; rw [iEq_eq])
theorem o_lss : (IOp.bin .lss x y).run T t nx = .ok (.bool (decide (a < b))) t nx := o_bin hx hy rfl (by decide) (by decide) (by show some (AV.bool (iLt a b)) = _; rw [iLt_eq])
theorem o_gtr : (IOp.bin .gtr x y).run T t nx = .ok (.bool (decide (b < a))) t nx := o_bin hx hy rfl (by decide) (by decide) (by show some (AV.bool (iLt b a)) = _; rw [iLt_eq])
theorem o_leq : (IOp.bin .leq x y).run T t nx = .ok (.bool (!decide (b < a))) t nx := o_bin hx hy rfl (by decide) (by decide) (by show some (AV.bool (!iLt b a)) = _; rw [iLt_eq])
theorem o_geq : (IOp.bin .geq x y).run T t nx = .ok (.bool (!decide (a < b))) t nx := o_bin hx hy rfl (by decide) (by decide) (by show some (AV.bool (!iLt a b)) = _; rw [iLt_eq])
end
theorem src_row {b o k c sz : Nat} {ex wr : Bool} {l : List AV} (hb : hv t b = some (.row l wr)) (ho : o + k * sz ≤ l.length) : srcCells (.slice b o k c sz ex) k sz t = some ((l.drop o).take (k * sz)) := by
 obtain ⟨c', h1, h2⟩ := row_iff.1 hb
 simp only [srcCells, h1]
 exact gets_row h2 ho
theorem app_nil {sz k : Nat} {y : AV} {cs : List AV} (hl : srcLen y = some k) (hs : srcCells y k sz t = some cs) (hc : allCell cs = true) (h0 : 0 < k) (hk : k * sz ≤ 65536) :
  ∃ t', appendA sz .nslice y t nx = .ok (.slice nx 0 k k sz false) t' (nx + 1) ∧ hv t' = upd (hv t) nx (some (.row cs true)) := by
 obtain ⟨t', h3, h4⟩ := mk_row (t := t) (nx := nx) (cs := cs) (f := fun b => .slice b 0 k k sz false)
 refine ⟨t', ?_, h4⟩
 unfold appendA
 rw [hl]; dsimp only; rw [hs]; dsimp only; rw [hc]; dsimp only
 rw [show Nat.beq k 0 = false from by cases k with | zero => omega | succ n => rfl]; dsimp only
 rw [show Nat.ble (Nat.mul k sz) 65536 = true from by simpa using hk]
 exact h3
theorem app_new {sz k b o n c : Nat} {ex wr : Bool} {y : AV} {l cs : List AV} (hl : srcLen y = some k) (hs : srcCells y k sz t = some cs) (hc : allCell cs = true) (hb : hv t b = some (.row l wr)) (ho : o + n * sz ≤ l.length) (hn : c < n + k) (hk : (n + k) * sz ≤ 65536) (hw : ex = true ∨ wr = true) :
  ∃ t', appendA sz (.slice b o n c sz ex) y t nx = .ok (.slice nx 0 (n + k) (n + k) sz false) t' (nx + 1) ∧ hv t' = upd (if ex then hv t else upd (hv t) b none) nx (some (.row ((l.drop o).take (n * sz) ++ cs) true)) := by
 obtain ⟨c', h1, h2⟩ := row_iff.1 hb
 have e : appendA sz (.slice b o n c sz ex) y t nx = mk ((l.drop o).take (n * sz) ++ cs) (if ex then t else t.put none b) nx (fun b' => .slice b' 0 (n + k) (n + k) sz false) := by
  unfold appendA
  rw [hl]; dsimp only; rw [hs]; dsimp only; rw [hc]; dsimp only
  rw [show Nat.beq sz sz = true from by simp]; dsimp only
  rw [show Nat.ble (Nat.add n k) c = false from by
   cases hh : Nat.ble (Nat.add n k) c with
   | true => exact absurd (show n + k ≤ c by simpa using hh) (by omega)
   | false => rfl]
  dsimp only
  rw [h1]; dsimp only
  rw [show Nat.ble (Nat.mul (Nat.add n k) sz) 65536 = true from by simpa using hk]; dsimp only
  rw [show gets c' (Nat.mul n sz) o = some ((l.drop o).take (n * sz)) from gets_row h2 ho]; dsimp only
  rw [fNat_eq]
  cases ex with
  | true => dsimp only; rw [lApp_eq]; rfl
  | false =>
    have hw' : wr = true := by simpa using hw
    subst hw'
    dsimp only; rw [lApp_eq]; rfl
 obtain ⟨t', h3, h4⟩ := mk_row (t := if ex then t else t.put none b) (nx := nx) (cs := (l.drop o).take (n * sz) ++ cs) (f := fun b => .slice b 0 (n + k) (n + k) sz false)
 refine ⟨t', e.trans h3, ?_⟩
 rw [h4]
 cases ex with
 | true => rfl
 | false => show upd (hv (t.put none b)) nx _ = _; rw [hv_put]; rfl
theorem app_in {sz k b o n c : Nat} {ex : Bool} {y : AV} {l cs : List AV} (hl : srcLen y = some k) (hs : srcCells y k sz t = some cs) (hc : allCell cs = true) (hb : hv t b = some (.row l true)) (hn : n + k ≤ c) (ho : o + n * sz + cs.length ≤ l.length) :
  ∃ t', appendA sz (.slice b o n c sz ex) y t nx = .ok (.slice b o (n + k) c sz ex) t' nx ∧ hv t' = upd (hv t) b (some (.row (splice l (o + n * sz) cs) true)) := by
 obtain ⟨t', h3, h4⟩ := store_at (t := t) (b := b) (o := o + n * sz) (us := cs) hb hc ho
 refine ⟨t', ?_, h4⟩
 unfold appendA
 rw [hl]; dsimp only; rw [hs]; dsimp only; rw [hc]; dsimp only
 rw [show Nat.beq sz sz = true from by simp]; dsimp only
 rw [show Nat.ble (Nat.add n k) c = true from by simpa using hn]; dsimp only
 rw [show storeAt cs b (Nat.add o (Nat.mul n sz)) t = some t' from h3]; dsimp only
 rw [fNat_eq]
 rfl
theorem o_app {sz : Nat} {x y : Opd} {u v : AV} {r : AV} {t' : TB} {nx' : Nat} (hx : x.ev T = some u) (hy : y.ev T = some v) (h : appendA sz u v t nx = .ok r t' nx') : (IOp.app sz x y).run T t nx = .ok r t' nx' := by
 simp only [IOp.run, hx, hy]; exact h
end Go.Proofs.YtpjohgnhmjceiaaGreatDoor.AX
set_option linter.unusedVariables false
set_option linter.unusedSectionVars false
set_option linter.unusedSimpArgs false
namespace Go.Proofs.YtpjohgnhmjceiaaGreatDoor.AX
variable [Env] {tab : Nat → Option AFn} {T : TA} {t : TB} {nx : Nat} {Q : R → Prop} {QR : TA → TB → Nat → Prop}
def WD (tab : Nat → Option AFn) (k : Nat) (ops : List DIns) (L : List Nat) (F : List (DIns × AV)) (G : List GB) (T : TA) (t : TB) (nx : Nat) (QR : TA → TB → Nat → Prop) : Prop :=
 ∃ n T' t' nx', drawA (callA tab (runA tab n)) ops k L F G T t nx = .ok T' t' nx' ∧ QR T' t' nx'
theorem WC.draw {l : List DIns} (h : WD tab 200 l [] [] [] T t nx (fun T t nx => Q (.ok T t nx))) : WC tab (.draw l) T t nx Q := by
 obtain ⟨n, T1, t1, n1, e, hq⟩ := h
 exact ⟨n, _, e, rfl, hq⟩
noncomputable def idle (L : List Nat) (F : List (DIns × AV)) (i : DIns) : Bool :=
 !(readyD L i && floatOK i F && (match i.ins.grd with | none => (match i.ins.what with | .op o => o.light | _ => false) | some _ => true))
theorem idle_skip {L : List Nat} {F : List (DIns × AV)} {i : DIns} (h : idle L F i = true) (ops : List DIns) : findF L F T t nx (i :: ops) = findF L F T t nx ops := by
 show (match readyD L i with
  | true => (match floatOK i F with
    | true => (match evalL i.ins T t nx with
      | some v => some (i, v)
      | none => findF L F T t nx ops)
    | false => findF L F T t nx ops)
  | false => findF L F T t nx ops) = _
 unfold idle at h
 cases h1 : readyD L i with
 | false => rfl
 | true =>
   cases h2 : floatOK i F with
   | false => rfl
   | true =>
     rw [h1, h2] at h
     have h3 : evalL i.ins T t nx = none := by
      unfold evalL
      cases hg : i.ins.grd with
      | some g => rw [hg] at h; simp at h
      | none =>
        rw [hg] at h
        dsimp only [wantA]
        cases hw : i.ins.what with
        | op o =>
          rw [hw] at h
          dsimp only
          have : o.light = false := by simpa using h
          rw [this]
        | _ => rfl
     dsimp only
     rw [h3]
theorem idle_all {L : List Nat} {F : List (DIns × AV)} : ∀ {pre : List DIns}, pre.all (idle L F) = true → ∀ (ops : List DIns), findF L F T t nx (pre ++ ops) = findF L F T t nx ops
 | [], _, ops => rfl
 | i :: pre, h, ops => by
   have h' : idle L F i = true ∧ pre.all (idle L F) = true := by simpa using h
   rw [List.cons_append, idle_skip h'.1, idle_all h'.2]
theorem findF_hit {L : List Nat} {F : List (DIns × AV)} {i : DIns} {v : AV} {ops : List DIns} (h1 : readyD L i = true) (h2 : floatOK i F = true) (h3 : evalL i.ins T t nx = some v) : findF L F T t nx (i :: ops) = some (i, v) := by
 show (match readyD L i with
  | true => (match floatOK i F with
    | true => (match evalL i.ins T t nx with
      | some v => some (i, v)
      | none => findF L F T t nx ops)
    | false => findF L F T t nx ops)
  | false => findF L F T t nx ops) = _
 rw [h1, h2]
 dsimp only
 rw [h3]
theorem evalL_op {d : Option Nat} {g : Option (Nat × Bool)} {o : IOp} {v : AV} {t' : TB} {nx' : Nat} (hg : wantA g T = some true) (hl : o.light = true) (h : o.run T t nx = .ok v t' nx') : evalL ⟨d, g, .op o⟩ T t nx = some v := by
 unfold evalL
 dsimp only
 rw [hg]
 dsimp only
 rw [hl]
 dsimp only
 rw [h]
theorem evalL_off {d : Option Nat} {g : Option (Nat × Bool)} {w : What} (hg : wantA g T = some false) : evalL ⟨d, g, w⟩ T t nx = some .undef := by
 unfold evalL
 dsimp only
 rw [hg]
theorem WD.float {k : Nat} {ops : List DIns} {L : List Nat} {F : List (DIns × AV)} {G : List GB} {pre post : List DIns} {i : DIns} {v : AV} (ho : ops = pre ++ i :: post) (hs : (pre.all (idle L F) && (readyD L i && floatOK i F)) = true) (he : evalL i.ins T t nx = some v)
  (h : WD tab k ops (i.ix :: L) ((i, v) :: F) G (putD T i.ins.dst v) t nx QR) : WD tab (k + 1) ops L F G T t nx QR := by
 obtain ⟨n, T1, t1, n1, e, hq⟩ := h
 refine ⟨n, T1, t1, n1, ?_, hq⟩
 have hs' : pre.all (idle L F) = true ∧ readyD L i = true ∧ floatOK i F = true := by simpa using hs
 unfold drawA
 rw [show findF L F T t nx ops = some (i, v) from by rw [ho, idle_all hs'.1]; exact findF_hit hs'.2.1 hs'.2.2 he]
 exact e
theorem WD.done {k : Nat} {ops : List DIns} {L : List Nat} {F : List (DIns × AV)} (hi : ops.all (idle L F) = true) (hr : ops.filter (readyD L) = []) (h : QR T t nx) : WD tab (k + 1) ops L F [] T t nx QR := by
 refine ⟨0, T, t, nx, ?_, h⟩
 unfold drawA
 rw [show findF L F T t nx ops = none from by have := idle_all (T := T) (t := t) (nx := nx) hi []; rw [List.append_nil] at this; rw [this]; rfl, hr]
 rfl
def still (T : TA) (t : TB) (nx : Nat) (f : DIns × AV) : Prop := ∃ u, evalL f.1.ins T t nx = some u ∧ aeq u f.2 = true
theorem sameF_of {T : TA} {t : TB} {nx : Nat} : ∀ {F : List (DIns × AV)}, (∀ f ∈ F, still T t nx f) → sameF F [] T t nx = true
 | [], _ => rfl
 | f :: F, h => by
   obtain ⟨u, h1, h2⟩ := h f (by simp)
   have ih := sameF_of (F := F) (fun g hg => h g (by simp [hg]))
   unfold sameF at ih ⊢
   rw [List.all_cons]
   rw [ih]
   show ((match isG [] f.1.ix with
    | true => true
    | false => (match evalL f.1.ins T t nx with | some u => aeq u f.2 | none => false)) && true) = true
   rw [show isG [] f.1.ix = false from rfl]
   dsimp only
   rw [h1]
   simpa using h2
noncomputable def keepF (ops : List DIns) (h : DIns) (F : List (DIns × AV)) : List (DIns × AV) := F.filter (fun f => Bool.not (nIn f.1.ix (closeD ops 3 h.pre)))
noncomputable def apartF (h : DIns) (F' : List (DIns × AV)) : Bool := F'.all (fun f => Bool.and (Bool.not (dEq f.1.ins.dst h.ins.dst)) (Bool.and (Bool.not (dIn h.ins.dst f.1.ins.rd)) (Bool.not (dIn f.1.ins.dst h.ins.rd))))
theorem WD.heavy {k : Nat} {ops : List DIns} {L : List Nat} {F F' : List (DIns × AV)} {h : DIns} {o : IOp} {v : AV} {t' : TB} {nx' : Nat} (hi : ops.all (idle L F) = true) (hr : ops.filter (readyD L) = [h]) (hF : keepF ops h F = F') (ha : apartF h F' = true)
  (hw : h.ins.what = .op o) (hg : wantA h.ins.grd T = some true) (ho : o.run T t nx = .ok v t' nx') (hs : ∀ f ∈ F', still (putD T h.ins.dst v) t' nx' f)
  (hk : WD tab k ops (h.ix :: L) F' [] (putD T h.ins.dst v) t' nx' QR) : WD tab (k + 1) ops L F [] T t nx QR := by
 obtain ⟨n, T1, t1, n1, e, hq⟩ := hk
 refine ⟨n, T1, t1, n1, ?_, hq⟩
 unfold drawA
 rw [show findF L F T t nx ops = none from by have := idle_all (T := T) (t := t) (nx := nx) hi []; rw [List.append_nil] at this; rw [this]; rfl, hr]
 dsimp only
 rw [show findIn (closeD ops 3 h.pre) [] = none from rfl]
 dsimp only
 rw [show F.filter (fun f => Bool.not (nIn f.1.ix (closeD ops 3 h.pre))) = F' from hF, show F'.all (fun f => Bool.and (Bool.not (dEq f.1.ins.dst h.ins.dst)) (Bool.and (Bool.not (dIn h.ins.dst f.1.ins.rd)) (Bool.not (dIn f.1.ins.dst h.ins.rd)))) = true from ha]
 dsimp only
 rw [hg]
 dsimp only
 rw [hw]
 dsimp only [What.run]
 rw [ho]
 dsimp only
 rw [sameF_of hs]
 exact e
theorem WD.call {k : Nat} {ops : List DIns} {L : List Nat} {F F' : List (DIns × AV)} {h : DIns} {f : FuncId} {vs : List AV} (hi : ops.all (idle L F) = true) (hr : ops.filter (readyD L) = [h]) (hF : keepF ops h F = F') (ha : apartF h F' = true)
  (hg : wantA h.ins.grd T = some true) (hw : ∀ c : CallT, h.ins.what.run c T t nx = c f vs t nx)
  (hc : WF tab f vs t nx (fun v t' nx' => (∀ f ∈ F', still (putD T h.ins.dst v) t' nx' f) ∧ WD tab k ops (h.ix :: L) F' [] (putD T h.ins.dst v) t' nx' QR)) : WD tab (k + 1) ops L F [] T t nx QR := by
 obtain ⟨n, v, t1, n1, e1, hs, m, T2, t2, n2, e2, hq⟩ := hc
 refine ⟨max n m, T2, t2, n2, ?_, hq⟩
 unfold drawA
 rw [show findF L F T t nx ops = none from by have := idle_all (T := T) (t := t) (nx := nx) hi []; rw [List.append_nil] at this; rw [this]; rfl, hr]
 dsimp only
 rw [show findIn (closeD ops 3 h.pre) [] = none from rfl]
 dsimp only
 rw [show F.filter (fun f => Bool.not (nIn f.1.ix (closeD ops 3 h.pre))) = F' from hF, show F'.all (fun f => Bool.and (Bool.not (dEq f.1.ins.dst h.ins.dst)) (Bool.and (Bool.not (dIn h.ins.dst f.1.ins.rd)) (Bool.not (dIn f.1.ins.dst h.ins.rd)))) = true from ha]
 dsimp only
 rw [hg]
 dsimp only
 rw [hw, callA_mono tab (Nat.le_max_left n m) _ _ _ _ _ _ _ e1]
 dsimp only
 rw [sameF_of hs]
 dsimp only
 rw [draw_mono (callA_mono tab (Nat.le_max_right n m)) _ _ _ _ _ _ _ _ (by rw [e2]; rfl), e2]
theorem still_op {T : TA} {t : TB} {nx : Nat} {ix : Nat} {pre : List Nat} {d : Option Nat} {g : Option (Nat × Bool)} {o : IOp} {v : AV} {t' : TB} {nx' : Nat} (hg : wantA g T = some true) (hl : o.light = true) (h : o.run T t nx = .ok v t' nx') (ha : aeq v v = true) : still T t nx (⟨ix, pre, ⟨d, g, .op o⟩⟩, v) :=
 ⟨v, evalL_op hg hl h, ha⟩
theorem still_off {T : TA} {t : TB} {nx : Nat} {ix : Nat} {pre : List Nat} {d : Option Nat} {g : Option (Nat × Bool)} {w : What} (hg : wantA g T = some false) : still T t nx (⟨ix, pre, ⟨d, g, w⟩⟩, .undef) :=
 ⟨.undef, evalL_off hg, rfl⟩
theorem all_cons_ {α : Type} {P : α → Prop} {x : α} {l : List α} (h : P x) (k : ∀ y ∈ l, P y) : ∀ y ∈ x :: l, P y := by
 intro y hy
 rcases List.mem_cons.1 hy with rfl | hy
 · exact h
 · exact k y hy
theorem all_nil_ {α : Type} {P : α → Prop} : ∀ y ∈ ([] : List α), P y := fun y hy => by cases hy
theorem nbeq (n : Nat) : Nat.beq n n = true := by simp
theorem iEq_self (a : Int) : iEq a a = true := by rw [iEq_eq]; simp
theorem sEq_self (s : List Nat) : sEq s s = true := by rw [sEq_eq]; simp
def flatC (v : AV) : Bool := match v with
 | .func _ _ _ => false | .iface _ _ => false | .agg _ => false | .tup _ => false | .opq _ _ => false | _ => true
theorem aeqC_self {v : AV} (h : flatC v = true) : aeqC v v = true := by
 cases v with
 | bool b => cases b <;> rfl
 | int k n => simp [aeqC, iEq_self]
 | str s => simp [aeqC, sEq_self]
 | ptr b o => simp [aeqC]
 | slice b o n c sz ex => cases ex <;> simp [aeqC]
 | map b => simp [aeqC]
 | func f a b => cases h
 | iface ty v => cases h
 | agg l => cases h
 | tup l => cases h
 | opq b f => cases h
 | _ => rfl
theorem aeq_flat {v : AV} (h : flatC v = true) : aeq v v = true := by
 cases v <;> first | (cases h; done) | (unfold aeq; exact aeqC_self h)
theorem aeqL_self : ∀ {l : List AV}, (∀ v ∈ l, flatC v = true) → aeqL l l = true
 | [], _ => rfl
 | v :: l, h => by
   show (match aeqC v v with | true => aeqL l l | false => false) = true
   rw [aeqC_self (h v (by simp))]
   exact aeqL_self (fun u hu => h u (by simp [hu]))
theorem aeq_agg {l : List AV} (h : ∀ v ∈ l, flatC v = true) : aeq (.agg l) (.agg l) = true := by unfold aeq; exact aeqL_self h
end Go.Proofs.YtpjohgnhmjceiaaGreatDoor.AX
set_option linter.unusedVariables false
set_option linter.unusedSectionVars false
set_option linter.unusedSimpArgs false
namespace Go.Proofs.YtpjohgnhmjceiaaGreatDoor.AX
variable [Env] {tab : Nat → Option AFn} {T : TA} {t t' : TB} {nx : Nat}
abbrev K := TA → TB → Nat → Prop
def K3 (ok : K) (ex : Nat → K) (rt : K) : R → Prop
 | .ok T t nx => ok T t nx
 | .exit j T t nx => ex j T t nx
 | .ret T t nx => rt T t nx
 | .bad _ => False
def exK (id : Nat) (ok : K) (ex : Nat → K) (j : Nat) : K := fun T t nx => if j = id then ok T t nx else ex j T t nx
variable {ok rt : K} {ex : Nat → K}
theorem exK_same {id : Nat} (h : ok T t nx) : exK id ok ex id T t nx := by unfold exK; rw [if_pos rfl]; exact h
theorem k_reg {l : List Ins} (h : WR tab l T t nx ok) : WC tab (.reg l) T t nx (K3 ok ex rt) := WC.reg h
theorem k_draw {l : List DIns} (h : WD tab 200 l [] [] [] T t nx ok) : WC tab (.draw l) T t nx (K3 ok ex rt) := WC.draw h
theorem k_seq {a b : IC} (h : WC tab a T t nx (K3 (fun T t nx => WC tab b T t nx (K3 ok ex rt)) ex rt)) : WC tab (.seq a b) T t nx (K3 ok ex rt) :=
 WC.seq (h.mono (fun r hr => by cases r <;> exact hr))
theorem k_skip (h : ok T t nx) : WC tab .skip T t nx (K3 ok ex rt) := WC.skip h
theorem k_exit {id : Nat} (h : ex id T t nx) : WC tab (.exit id) T t nx (K3 ok ex rt) := WC.exit h
theorem k_ret (h : rt T t nx) : WC tab .ret T t nx (K3 ok ex rt) := WC.ret h
theorem k_cond {x : Opd} {a b : IC} {c : Bool} (hx : x.ev T = some (.bool c)) (h1 : c = true → WC tab a T t nx (K3 ok ex rt)) (h2 : c = false → WC tab b T t nx (K3 ok ex rt)) : WC tab (.cond x a b) T t nx (K3 ok ex rt) :=
 WC.cond hx (by cases c <;> simp [h1, h2])
theorem k_block {id : Nat} {c : IC} (h : WC tab c T t nx (K3 ok (exK id ok ex) rt)) : WC tab (.block id c) T t nx (K3 ok ex rt) := by
 refine WC.block (h.mono (fun r hr => ?_))
 cases r with
 | exit j T1 t1 n1 =>
   have h' : (if j = id then ok T1 t1 n1 else ex j T1 t1 n1) := hr
   dsimp only
   by_cases e : j = id
   · rw [if_pos e] at h' ⊢; exact h'
   · rw [if_neg e] at h' ⊢; exact h'
 | _ => exact hr
theorem k_loop {c : IC} (I : Nat → K) (h : ∀ m T t nx, I m T t nx → WC tab c T t nx (K3 (fun T t nx => ∃ m', m' < m ∧ I m' T t nx) ex rt)) (m : Nat) (h0 : I m T t nx) : WC tab (.loop c) T t nx (K3 ok ex rt) :=
 WC.loop I (fun m T t nx hi => (h m T t nx hi).mono (fun r hr => by cases r <;> exact hr)) m h0
theorem k_cut {a : IC} (M : K) (h : WC tab a T t nx (K3 M ex rt)) (k : ∀ T t nx, M T t nx → ok T t nx) : WC tab a T t nx (K3 ok ex rt) :=
 h.mono (fun r hr => by
  cases r with
  | ok T1 t1 n1 => exact k _ _ _ hr
  | _ => exact hr)
theorem k_fun {f np nt : Nat} {body : IC} {res : List Res} {args : List AV} {Q : AV → TB → Nat → Prop} (ht : tab f = some (.code np nt body res)) (hl : Nat.beq (lLen args) np = true)
  (h : WC tab body (slots args) t nx (K3 (fun T t nx => ∃ v, answer T t nx res = .ok v t nx ∧ Q v t nx) (fun _ _ _ _ => False) (fun T t nx => ∃ v, answer T t nx res = .ok v t nx ∧ Q v t nx))) : WF tab f args t nx Q :=
 WF.code ht hl (h.mono (fun r hr => by cases r <;> exact hr))
theorem ans_tmp {s : Nat} {v : AV} (h : T.get s = some v) : answer T t nx [.tmp s] = .ok v t nx := by
 show (match resAll T t [.tmp s] with | some [v] => V1.ok v t nx | some vs => .ok (.tup vs) t nx | none => .no []) = _
 rw [show resAll T t [.tmp s] = some [v] from by
  show (match T.get s with | some v => (match (some [] : Option (List AV)) with | some vs => some (v :: vs) | none => none) | none => none) = _
  rw [h]]
theorem ans_none : answer T t nx [] = .ok (.tup []) t nx := rfl
theorem res_nil : resAll T t [] = some [] := rfl
theorem res_tmp {s : Nat} {v : AV} {l : List Res} {vs : List AV} (h : T.get s = some v) (k : resAll T t l = some vs) : resAll T t (.tmp s :: l) = some (v :: vs) := by
 show (match T.get s with | some v => (match resAll T t l with | some vs => some (v :: vs) | none => none) | none => none) = _
 rw [h, k]
theorem res_cell {a b o n : Nat} {ls us : List AV} {wr : Bool} {l : List Res} {vs : List AV} (h : T.get a = some (.ptr b o)) (hb : hv t b = some (.row ls wr)) (ho : o + n ≤ ls.length) (hu : (ls.drop o).take n = us) (k : resAll T t l = some vs) : resAll T t (.cell a n true :: l) = some (.agg us :: vs) := by
 obtain ⟨c, h1, h2⟩ := row_iff.1 hb
 have e : resOf T t (.cell a n true) = some (.agg us) := by
  simp only [resOf, h, h1, gets_row h2 ho, hu]
 show (match resOf T t (.cell a n true) with | some v => (match resAll T t l with | some vs => some (v :: vs) | none => none) | none => none) = _
 rw [e, k]
theorem ans_two {l : List Res} {u v : AV} {vs : List AV} (h : resAll T t l = some (u :: v :: vs)) : answer T t nx l = .ok (.tup (u :: v :: vs)) t nx := by unfold answer; rw [h]
theorem r_nil (h : ok T t nx) : WR tab [] T t nx ok := WR.nil h
theorem r_op {d : Option Nat} {g : Option (Nat × Bool)} {o : IOp} {l : List Ins} {v : AV} (ho : o.run T t nx = .ok v t nx) (hg : wantA g T = some true) (h : WR tab l (putD T d v) t nx ok) : WR tab (⟨d, g, .op o⟩ :: l) T t nx ok := WR.op hg ho h
theorem r_heap {d : Option Nat} {g : Option (Nat × Bool)} {o : IOp} {l : List Ins} {v : AV} {nx' : Nat} {P : TB → Prop} (ho : ∃ t', o.run T t nx = .ok v t' nx' ∧ P t') (hg : wantA g T = some true) (h : ∀ t', P t' → WR tab l (putD T d v) t' nx' ok) : WR tab (⟨d, g, .op o⟩ :: l) T t nx ok := by
 obtain ⟨t', e, hp⟩ := ho
 exact WR.op hg e (h t' hp)
theorem r_off {d : Option Nat} {g : Option (Nat × Bool)} {w : What} {l : List Ins} (hg : wantA g T = some false) (h : WR tab l (putD T d .undef) t nx ok) : WR tab (⟨d, g, w⟩ :: l) T t nx ok := WR.skip hg h
theorem r_call {d : Option Nat} {g : Option (Nat × Bool)} {w : What} {l : List Ins} {f : FuncId} {vs : List AV} (hw : ∀ c : CallT, w.run c T t nx = c f vs t nx) (hg : wantA g T = some true) (h : WF tab f vs t nx (fun v t' nx' => WR tab l (putD T d v) t' nx' ok)) : WR tab (⟨d, g, w⟩ :: l) T t nx ok := WR.call hg hw h
theorem want_on {s : Nat} {w : Bool} (h : T.get s = some (.bool w)) : wantA (some (s, w)) T = some true := by
 simp only [wantA, h]; cases w <;> rfl
theorem want_not {s : Nat} {w u : Bool} (h : T.get s = some (.bool u)) (hn : u = !w) : wantA (some (s, w)) T = some false := by
 subst hn; simp only [wantA, h]; cases w <;> rfl
theorem evs_nil : evs [] T = some [] := rfl
theorem evs_cons {x : Opd} {xs : List Opd} {v : AV} {vs : List AV} (h : x.ev T = some v) (k : evs xs T = some vs) : evs (x :: xs) T = some (v :: vs) := by
 show (match x.ev T with | some v => (match evs xs T with | some r => some (v :: r) | none => none) | none => none) = _
 rw [h, k]
theorem w_callF {f : FuncId} {args : List Opd} {vs : List AV} (h : evs args T = some vs) (c : CallT) : (What.callF f args).run c T t nx = c f vs t nx := by simp only [What.run, h]
theorem w_callV {f : FuncId} {x : Opd} {args : List Opd} {a b vs : List AV} (hx : x.ev T = some (.func f a b)) (h : evs args T = some vs) (c : CallT) : (What.callV x args).run c T t nx = c f (a ++ (vs ++ b)) t nx := by simp only [What.run, hx, h, lApp_eq]
theorem look_same {H : Hp} {b : Nat} {x : Option HB} (h : hv t = upd H b x) : hv t b = x := by rw [h]; exact upd_same _ _ _
theorem look_ne {b c : Nat} {x r : Option HB} (h : hv t' = upd (hv t) b x) (hn : c ≠ b) (e : hv t c = r) : hv t' c = r := by rw [h, upd_ne _ _ _ _ hn]; exact e
def Keep (t t' : TB) (nx : Nat) (W : Nat → Prop) : Prop := ∀ b, b < nx → ¬ W b → hv t' b = hv t b
theorem Keep.refl (t : TB) (nx : Nat) (W : Nat → Prop) : Keep t t nx W := fun _ _ _ => rfl
theorem Keep.upd {W : Nat → Prop} {t0 : TB} {b : Nat} {x : Option HB} (h : Keep t0 t nx W) (e : hv t' = upd (hv t) b x) (hb : nx ≤ b ∨ W b) : Keep t0 t' nx W := by
 intro c hc hw
 rw [e, upd_ne _ _ _ _ (fun e' => by subst e'; rcases hb with h1 | h1; omega; exact hw h1)]
 exact h c hc hw
theorem Keep.trans {W W' : Nat → Prop} {t0 t1 t2 : TB} {n0 n1 : Nat} (h : Keep t0 t1 n0 W) (k : Keep t1 t2 n1 W') (hn : n0 ≤ n1) (hw : ∀ b, b < n0 → W' b → W b) : Keep t0 t2 n0 W := by
 intro c hc hx
 rw [k c (by omega) (fun e => hx (hw c hc e))]
 exact h c hc hx
theorem Keep.look {W : Nat → Prop} {t0 : TB} {c : Nat} {r : Option HB} (h : Keep t0 t nx W) (hc : c < nx) (hw : ¬ W c) (e : hv t0 c = r) : hv t c = r := (h c hc hw).trans e
theorem app_new_f {sz k b o n c : Nat} {y : AV} {l cs : List AV} (hl : srcLen y = some k) (hs : srcCells y k sz t = some cs) (hc : allCell cs = true) (hb : hv t b = some (.row l true)) (ho : o + n * sz ≤ l.length) (hn : c < n + k) (hk : (n + k) * sz ≤ 65536) :
  ∃ t', appendA sz (.slice b o n c sz false) y t nx = .ok (.slice nx 0 (n + k) (n + k) sz false) t' (nx + 1) ∧ ∃ t1, hv t1 = upd (hv t) b none ∧ hv t' = upd (hv t1) nx (some (.row ((l.drop o).take (n * sz) ++ cs) true)) := by
 obtain ⟨t', h1, h2⟩ := app_new (t := t) (nx := nx) (ex := false) hl hs hc hb ho hn hk (.inr rfl)
 refine ⟨t', h1, t.put none b, hv_put _ _ _, ?_⟩
 rw [h2, hv_put]
 rfl
theorem o_appE {sz : Nat} {x y : Opd} {u v r : AV} {nx' : Nat} {P : TB → Prop} (hx : x.ev T = some u) (hy : y.ev T = some v) (h : ∃ t', appendA sz u v t nx = .ok r t' nx' ∧ P t') : ∃ t', (IOp.app sz x y).run T t nx = .ok r t' nx' ∧ P t' := by
 obtain ⟨t', e, hp⟩ := h
 exact ⟨t', o_app hx hy e, hp⟩
theorem d_op {k : Nat} {ops : List DIns} {L : List Nat} {F : List (DIns × AV)} {G : List GB} {pre post : List DIns} {ix : Nat} {pr : List Nat} {d : Option Nat} {g : Option (Nat × Bool)} {o : IOp} {v : AV} (ho : o.run T t nx = .ok v t nx) (hg : wantA g T = some true) (hp : ops = pre ++ ⟨ix, pr, ⟨d, g, .op o⟩⟩ :: post) (hs : (pre.all (idle L F) && (readyD L ⟨ix, pr, ⟨d, g, .op o⟩⟩ && floatOK ⟨ix, pr, ⟨d, g, .op o⟩⟩ F)) = true) (hl : o.light = true)
 (h : WD tab k ops (ix :: L) ((⟨ix, pr, ⟨d, g, .op o⟩⟩, v) :: F) G (putD T d v) t nx ok) : WD tab (k + 1) ops L F G T t nx ok := WD.float hp hs (evalL_op hg hl ho) h
theorem d_off {k : Nat} {ops : List DIns} {L : List Nat} {F : List (DIns × AV)} {G : List GB} {pre post : List DIns} {ix : Nat} {pr : List Nat} {d : Option Nat} {g : Option (Nat × Bool)} {w : What} (hg : wantA g T = some false) (hp : ops = pre ++ ⟨ix, pr, ⟨d, g, w⟩⟩ :: post) (hs : (pre.all (idle L F) && (readyD L ⟨ix, pr, ⟨d, g, w⟩⟩ && floatOK ⟨ix, pr, ⟨d, g, w⟩⟩ F)) = true)
 (h : WD tab k ops (ix :: L) ((⟨ix, pr, ⟨d, g, w⟩⟩, .undef) :: F) G (putD T d .undef) t nx ok) : WD tab (k + 1) ops L F G T t nx ok := WD.float hp hs (evalL_off hg) h
theorem d_heap {k : Nat} {ops : List DIns} {L : List Nat} {F F' : List (DIns × AV)} {ix : Nat} {pr : List Nat} {d : Option Nat} {g : Option (Nat × Bool)} {o : IOp} {v : AV} {nx' : Nat} {P : TB → Prop} (ho : ∃ t', o.run T t nx = .ok v t' nx' ∧ P t') (hg : wantA g T = some true)
  (hi : ops.all (idle L F) = true) (hr : ops.filter (readyD L) = [⟨ix, pr, ⟨d, g, .op o⟩⟩]) (hF : keepF ops ⟨ix, pr, ⟨d, g, .op o⟩⟩ F = F') (ha : apartF ⟨ix, pr, ⟨d, g, .op o⟩⟩ F' = true)
  (hk : ∀ t', P t' → (∀ f ∈ F', still (putD T d v) t' nx' f) ∧ WD tab k ops (ix :: L) F' [] (putD T d v) t' nx' ok) : WD tab (k + 1) ops L F [] T t nx ok := by
 obtain ⟨t', e, hp⟩ := ho
 exact WD.heavy hi hr hF ha rfl hg e (hk t' hp).1 (hk t' hp).2
theorem d_call {k : Nat} {ops : List DIns} {L : List Nat} {F F' : List (DIns × AV)} {ix : Nat} {pr : List Nat} {d : Option Nat} {g : Option (Nat × Bool)} {w : What} {f : FuncId} {vs : List AV} (hw : ∀ c : CallT, w.run c T t nx = c f vs t nx) (hg : wantA g T = some true)
 (hi : ops.all (idle L F) = true) (hr : ops.filter (readyD L) = [⟨ix, pr, ⟨d, g, w⟩⟩]) (hF : keepF ops ⟨ix, pr, ⟨d, g, w⟩⟩ F = F') (ha : apartF ⟨ix, pr, ⟨d, g, w⟩⟩ F' = true)
 (hc : WF tab f vs t nx (fun v t' nx' => (∀ f ∈ F', still (putD T d v) t' nx' f) ∧ WD tab k ops (ix :: L) F' [] (putD T d v) t' nx' ok)) : WD tab (k + 1) ops L F [] T t nx ok := WD.call hi hr hF ha hg hw hc
theorem d_done {k : Nat} {ops : List DIns} {L : List Nat} {F : List (DIns × AV)} (hi : ops.all (idle L F) = true) (hr : ops.filter (readyD L) = []) (h : ok T t nx) : WD tab (k + 1) ops L F [] T t nx ok := WD.done hi hr h
theorem fill_nil {l : List AV} : fillA [] T l = some l := rfl
theorem fill_cons {off size : Nat} {x : Opd} {v : AV} {ps : List (Nat × Nat × Opd)} {l r : List AV} (h : x.ev T = some v) (h1 : Nat.beq (lLen v.cells) size = true) (h2 : Nat.ble (Nat.add off size) (lLen l) = true) (k : fillA ps T (setsAt v.cells off l) = some r) : fillA ((off, size, x) :: ps) T l = some r := by
 show (match x.ev T with
  | some v => (match Nat.beq (lLen v.cells) size with
    | true => (match Nat.ble (Nat.add off size) (lLen l) with | true => fillA ps T (setsAt v.cells off l) | false => none)
    | false => none)
  | none => none) = _
 rw [h]; dsimp only; rw [h1]; dsimp only; rw [h2]; exact k
theorem dec_t {o : IOp} {p : Prop} [Decidable p] (h : o.run T t nx = .ok (.bool (decide p)) t nx) (hp : p) : o.run T t nx = .ok (.bool true) t nx := by rw [h, decide_eq_true hp]
theorem dec_f {o : IOp} {p : Prop} [Decidable p] (h : o.run T t nx = .ok (.bool (decide p)) t nx) (hp : ¬ p) : o.run T t nx = .ok (.bool false) t nx := by rw [h, decide_eq_false hp]
theorem ndec_t {o : IOp} {p : Prop} [Decidable p] (h : o.run T t nx = .ok (.bool (!decide p)) t nx) (hp : ¬ p) : o.run T t nx = .ok (.bool true) t nx := by rw [h, decide_eq_false hp]; rfl
theorem ndec_f {o : IOp} {p : Prop} [Decidable p] (h : o.run T t nx = .ok (.bool (!decide p)) t nx) (hp : p) : o.run T t nx = .ok (.bool false) t nx := by rw [h, decide_eq_true hp]; rfl
theorem want_undef {s : Nat} {w : Bool} (h : T.get s = some .undef) : wantA (some (s, w)) T = some false := by
 simp only [wantA, h]; rfl
theorem k_cond_t {x : Opd} {a b : IC} (hx : x.ev T = some (.bool true)) (h1 : WC tab a T t nx (K3 ok ex rt)) : WC tab (.cond x a b) T t nx (K3 ok ex rt) := WC.cond hx (by simpa using h1)
theorem k_cond_f {x : Opd} {a b : IC} (hx : x.ev T = some (.bool false)) (h1 : WC tab b T t nx (K3 ok ex rt)) : WC tab (.cond x a b) T t nx (K3 ok ex rt) := WC.cond hx (by simpa using h1)
theorem bt_ {d : Nat} {p : Prop} [Decidable p] (hp : p) (h : T.get d = some (.bool true)) : T.get d = some (.bool (decide p)) := by rw [decide_eq_true hp]; exact h
theorem bf_ {d : Nat} {p : Prop} [Decidable p] (hp : ¬ p) (h : T.get d = some (.bool false)) : T.get d = some (.bool (decide p)) := by rw [decide_eq_false hp]; exact h
theorem bd_ {d : Nat} {p q : Prop} [Decidable p] [Decidable q] (hp : p ↔ q) (h : T.get d = some (.bool (decide q))) : T.get d = some (.bool (decide p)) := by rw [show decide p = decide q from decide_eq_decide.2 hp]; exact h
theorem bn_ {d : Nat} {p q : Prop} [Decidable p] [Decidable q] (hp : p ↔ ¬ q) (h : T.get d = some (.bool (!decide q))) : T.get d = some (.bool (decide p)) := by
 rw [h]; by_cases hq : q
 · rw [decide_eq_true hq, decide_eq_false (fun h' => hp.1 h' hq)]; rfl
 · rw [decide_eq_false hq, decide_eq_true (hp.2 hq)]; rfl
def skB (d : Option Nat) (j : Nat) : Bool := match d with | none => true | some d => !(Nat.beq d j)
theorem z1 {d : Option Nat} {v : AV} {j : Nat} {r : Option AV} (e : T.get j = r) (h : skB d j = true := by exact rfl) : (putD T d v).get j = r := by
 cases d with
 | none => exact e
 | some d =>
   have h' : (!(Nat.beq d j)) = true := h
   show (T.put (some v) d).get j = r
   rw [Bt.get_put, if_neg (fun e' => by subst e'; simp at h')]
   exact e
theorem z2 {d1 d2 : Option Nat} {v1 v2 : AV} {j : Nat} {r : Option AV} (e : T.get j = r) (h : (skB d1 j && skB d2 j) = true := by exact rfl) : (putD (putD T d1 v1) d2 v2).get j = r := by
 rw [Bool.and_eq_true] at h; exact z1 (z1 e h.1) h.2
theorem z4 {d1 d2 d3 d4 : Option Nat} {v1 v2 v3 v4 : AV} {j : Nat} {r : Option AV} (e : T.get j = r) (h : ((skB d1 j && skB d2 j) && (skB d3 j && skB d4 j)) = true := by exact rfl) : (putD (putD (putD (putD T d1 v1) d2 v2) d3 v3) d4 v4).get j = r := by
 rw [Bool.and_eq_true] at h; exact z2 (z2 e h.1) h.2
theorem z8 {d1 d2 d3 d4 d5 d6 d7 d8 : Option Nat} {v1 v2 v3 v4 v5 v6 v7 v8 : AV} {j : Nat} {r : Option AV} (e : T.get j = r) (h : (((skB d1 j && skB d2 j) && (skB d3 j && skB d4 j)) && ((skB d5 j && skB d6 j) && (skB d7 j && skB d8 j))) = true := by exact rfl) :
  (putD (putD (putD (putD (putD (putD (putD (putD T d1 v1) d2 v2) d3 v3) d4 v4) d5 v5) d6 v6) d7 v7) d8 v8).get j = r := by
 rw [Bool.and_eq_true] at h; exact z4 (z4 e h.1) h.2
theorem z16 {d1 d2 d3 d4 d5 d6 d7 d8 d9 d10 d11 d12 d13 d14 d15 d16 : Option Nat} {v1 v2 v3 v4 v5 v6 v7 v8 v9 v10 v11 v12 v13 v14 v15 v16 : AV} {j : Nat} {r : Option AV} (e : T.get j = r) (h : ((((skB d1 j && skB d2 j) && (skB d3 j && skB d4 j)) && ((skB d5 j && skB d6 j) && (skB d7 j && skB d8 j))) && (((skB d9 j && skB d10 j) && (skB d11 j && skB d12 j)) && ((skB d13 j && skB d14 j) && (skB d15 j && skB d16 j)))) = true := by exact rfl) : (putD (putD (putD (putD (putD (putD (putD (putD (putD (putD (putD (putD (putD (putD (putD (putD T d1 v1) d2 v2) d3 v3) d4 v4) d5 v5) d6 v6) d7 v7) d8 v8) d9 v9) d10 v10) d11 v11) d12 v12) d13 v13) d14 v14) d15 v15) d16 v16).get j = r := by
 rw [Bool.and_eq_true] at h; exact z8 (z8 e h.1) h.2
theorem ds {v : AV} {d : Nat} : (putD T (some d) v).get d = some v := get_same
theorem dn {v : AV} {j : Nat} {r : Option AV} (e : T.get j = r) : (putD T none v).get j = r := e
theorem leb {a b : Nat} (h : Nat.ble a b = true) : a ≤ b := by simpa using h
theorem whole {l : List AV} {n : Nat} (h : l.length = n) : (l.drop 0).take n = l := by subst h; simp
theorem land_G (a : Int) (m : Nat) (hm : m < 9223372036854775808) : ∃ r : Nat, r ≤ m ∧ bitsG .and .i64 a (m : Int) = some (r : Int) := by
 have hb : (BitVec.ofInt 64 (m : Int)).toNat = m := by rw [BitVec.toNat_ofInt]; omega
 have h1 : ((BitVec.ofInt 64 a) &&& (BitVec.ofInt 64 (m : Int))).toNat ≤ m := by
  rw [BitVec.toNat_and, hb]; exact Nat.and_le_right
 refine ⟨_, h1, ?_⟩
 show some (IntKind.i64.wrap ((((BitVec.ofInt 64 a) &&& (BitVec.ofInt 64 (m : Int))).toNat : Nat) : Int)) = _
 generalize ((BitVec.ofInt 64 a) &&& (BitVec.ofInt 64 (m : Int))).toNat = k at h1
 rw [← wrapF_eq, wrap_in _ (by omega) (by omega)]
theorem land_F (a : Int) (m : Nat) (hm : m < 9223372036854775808) : ∃ r : Nat, r ≤ m ∧ bitsF .and .i64 a (m : Int) = some (r : Int) := by
 obtain ⟨r, h1, h2⟩ := land_G a m hm
 cases a with
 | negSucc k => exact ⟨r, h1, h2⟩
 | ofNat k =>
   show ∃ r : Nat, r ≤ m ∧ (match Nat.ble k (kMax .i64), Nat.ble m (kMax .i64) with
    | true, true => some (Int.ofNat (Nat.land k m))
    | _, _ => bitsG .and .i64 (.ofNat k) (m : Int)) = some (r : Int)
   cases Nat.ble k (kMax .i64) <;> cases Nat.ble m (kMax .i64) <;> first
    | exact ⟨r, h1, h2⟩
    | exact ⟨Nat.land k m, Nat.and_le_right, rfl⟩
theorem o_rem {x y : Opd} {a n : Nat} (hx : x.ev T = some (.int .i64 (a : Int))) (hy : y.ev T = some (.int .i64 (n : Int))) (hn : 0 < n) : (IOp.bin .rem x y).run T t nx = .ok (.int .i64 ((a % n : Nat) : Int)) t nx := by
 refine o_bin hx hy rfl (by decide) (by decide) ?_
 show (match iEq (n : Int) 0 with | true => none | false => some (AV.int .i64 (Int.tmod (a : Int) (n : Int)))) = _
 rw [iEq_eq, decide_eq_false (by omega)]
 rfl
theorem o_conv_u8 {x : Opd} {k : IntKind} {a : Nat} (hx : x.ev T = some (.int k (a : Int))) (h : a < 256) : (IOp.conv .u8 x).run T t nx = .ok (.int .u8 (a : Int)) t nx := by
 have e : x.ev T = some (.int k (.ofNat a)) := hx
 simp only [IOp.run, e]
 rw [show wrapF .u8 (.ofNat a) = Int.ofNat a from by
  unfold wrapF; dsimp only; rw [show Nat.ble a (kMax .u8) = true from by simp [kMax]; omega]]
 exact retV_ok' _ t nx
theorem u8s_map (s : List Nat) : u8s s = s.map (fun (x : Nat) => AV.int .u8 (x : Int)) := by
 induction s with
 | nil => rfl
 | cons x s ih =>
   show AV.int .u8 (.ofNat x) :: u8s s = _
   rw [ih]; rfl
theorem u8s_len (s : List Nat) : (u8s s).length = s.length := by rw [u8s_map]; simp
theorem u8s_set (s : List Nat) (i c : Nat) : (u8s s).set i (.int .u8 (c : Int)) = u8s (s.set i c) := by rw [u8s_map, u8s_map, List.map_set]
theorem repl_u8 (n : Nat) : repl [.int .u8 0] n = u8s (List.replicate n 0) := by
 rw [repl_eq, u8s_map]
 induction n with
 | zero => rfl
 | succ n ih => rw [List.replicate_succ, List.flatten_cons, ih]; rfl
theorem bytes_u8 : ∀ {s : List Nat}, (∀ c ∈ s, c ≤ 255) → bytesOf (u8s s) = some s
 | [], _ => rfl
 | x :: s, h => by
   have ih := bytes_u8 (s := s) (fun c hc => h c (by simp [hc]))
   show (match Nat.ble x 255 with
    | true => (match bytesOf (u8s s) with | some r => some (x :: r) | none => none)
    | false => none) = some (x :: s)
   rw [show Nat.ble x 255 = true from by simpa using h x (by simp), ih]
theorem o_b2s {x : Opd} {b n c : Nat} {ex wr : Bool} {s : List Nat} (h : x.ev T = some (.slice b 0 n c 1 ex)) (hb : hv t b = some (.row (u8s s) wr)) (hn : s.length = n) (hs : ∀ c ∈ s, c ≤ 255) : (IOp.b2s x).run T t nx = .ok (.str s) t nx := by
 obtain ⟨c', h1, h2⟩ := row_iff.1 hb
 have e := gets_row h2 (n := n) (o := 0) (by rw [u8s_len]; omega)
 rw [whole (by rw [u8s_len]; exact hn)] at e
 simp only [IOp.run, h, h1, e, bytes_u8 hs]
theorem o_store_u8 {x y : Opd} {b o i c : Nat} {s : List Nat} (h : x.ev T = some (.ptr b o)) (hy : y.ev T = some (.int .u8 (c : Int))) (hb : hv t b = some (.row (u8s s) true)) (e : o = i) (hi : i < s.length) :
  ∃ t', (IOp.store 1 x y).run T t nx = .ok .undef t' nx ∧ hv t' = upd (hv t) b (some (.row (u8s (s.set i c)) true)) := by
 subst e
 obtain ⟨t', h1, h2⟩ := o_store (n := 1) h hy hb rfl rfl (by rw [u8s_len]; omega)
 refine ⟨t', h1, ?_⟩
 rw [h2, show (AV.int .u8 (c : Int)).cells = [.int .u8 (c : Int)] from rfl, splice_one _ _ _ (by rw [u8s_len]; omega), u8s_set]
theorem set_all {P : Nat → Prop} {s : List Nat} {i c : Nat} (h : ∀ x ∈ s, P x) (hc : P c) : ∀ x ∈ s.set i c, P x := by
 intro x hx
 rcases List.mem_or_eq_of_mem_set hx with h1 | h1
 · exact h x h1
 · subst h1; exact hc
def Upto (P : Nat → Prop) (s : List Nat) (i : Nat) : Prop := ∀ (j c : Nat), j < i → s[j]? = some c → P c
theorem Upto.set {P : Nat → Prop} {s : List Nat} {i c : Nat} (h : Upto P s i) (hc : P c) : Upto P (s.set i c) (i + 1) := by
 intro j x hj hx
 rw [List.getElem?_set] at hx
 by_cases e : i = j
 · subst e
   by_cases hl : i < s.length
   · simp [hl] at hx; subst hx; exact hc
   · simp [hl] at hx
 · rw [if_neg e] at hx
   exact h j x (by omega) hx
theorem Upto.all {P : Nat → Prop} {s : List Nat} {i : Nat} (h : Upto P s i) (hi : s.length ≤ i) : ∀ c ∈ s, P c := by
 intro c hc
 obtain ⟨j, hj, e⟩ := List.getElem_of_mem hc
 exact h j c (by omega) (by rw [List.getElem?_eq_getElem hj, e])
theorem o_mkslice_u8 {x y : Opd} {w : Nat} (hx : x.ev T = some (.int .i64 (w : Int))) (hy : y.ev T = some (.int .i64 (w : Int))) (h : w ≤ 65536) :
  ∃ t', (IOp.mkslice 1 [.int .u8 0] x y).run T t nx = .ok (.slice nx 0 w w 1 true) t' (nx + 1) ∧ hv t' = upd (hv t) nx (some (.row (u8s (List.replicate w 0)) true)) := by
 rw [← repl_u8]; exact o_mkslice hx hy (Nat.le_refl _) (by omega) rfl
theorem ev_cast {x : Opd} {k : IntKind} {a b : Int} (h : x.ev T = some (.int k a)) (e : a = b) : x.ev T = some (.int k b) := by rw [h, e]
theorem o_store1 {x y : Opd} {b o : Nat} {l : List AV} {b2 o2 n c sz : Nat} {ex : Bool} (h : x.ev T = some (.ptr b o)) (hy : y.ev T = some (.slice b2 o2 n c sz ex)) (hb : hv t b = some (.row l true)) (ho : o < l.length) :
  ∃ t', (IOp.store 1 x y).run T t nx = .ok .undef t' nx ∧ hv t' = upd (hv t) b (some (.row (l.set o (.slice b2 o2 n c sz ex)) true)) := by
 obtain ⟨t', h1, h2⟩ := o_store (n := 1) h hy hb rfl rfl (by omega)
 refine ⟨t', h1, ?_⟩
 rw [h2, show (AV.slice b2 o2 n c sz ex).cells = [.slice b2 o2 n c sz ex] from rfl, splice_one _ _ _ ho]
theorem o_addN {x y : Opd} {a b : Nat} (hx : x.ev T = some (.int .i64 (a : Int))) (hy : y.ev T = some (.int .i64 (b : Int))) (h : a + b < 9223372036854775808) : (IOp.bin .add x y).run T t nx = .ok (.int .i64 ((a + b : Nat) : Int)) t nx := by
 rw [o_add hx hy (by omega) (by omega)]; congr 2
theorem Keep.ne {W : Nat → Prop} {t0 : TB} {b : Nat} (h : Keep t0 t nx W) (e : ∀ d, d ≠ b → hv t' d = hv t d) (hb : nx ≤ b ∨ W b) : Keep t0 t' nx W := by
 intro c hc hw
 rw [e c (fun e' => by subst e'; rcases hb with h1 | h1; omega; exact hw h1)]
 exact h c hc hw
theorem o_str_eql {x y : Opd} {a b : List Nat} (hx : x.ev T = some (.str a)) (hy : y.ev T = some (.str b)) : (IOp.bin .eql x y).run T t nx = .ok (.bool (decide (a = b))) t nx := by
 simp only [IOp.run, hx, hy, strOp, sEq_eq]; exact retV_ok' _ t nx
theorem o_str_neq {x y : Opd} {a b : List Nat} (hx : x.ev T = some (.str a)) (hy : y.ev T = some (.str b)) : (IOp.bin .neq x y).run T t nx = .ok (.bool (!decide (a = b))) t nx := by
 simp only [IOp.run, hx, hy, strOp, sEq_eq]; exact retV_ok' _ t nx
theorem k_prim {f : Nat} {g : List AV → TB → Option AV} {args : List AV} {v : AV} {Q : AV → TB → Nat → Prop} (ht : tab f = some (.prim g)) (hg : g args t = some v) (h : Q v t nx) : WF tab f args t nx Q := by
 refine ⟨0, v, t, nx, ?_, h⟩
 unfold callA
 rw [ht]
 dsimp only
 rw [hg]
theorem nd_t {p : Prop} [Decidable p] (h : (!decide p) = true) : ¬ p := by simpa using h
theorem nd_f {p : Prop} [Decidable p] (h : (!decide p) = false) : p := by simpa using h
theorem o_mkfn {f : FuncId} {xs ys : List Opd} {a b : List AV} (h : evs xs T = some a) (k : evs ys T = some b) : (IOp.mkfn f xs ys).run T t nx = .ok (.func f a b) t nx := by simp only [IOp.run, h, k]
theorem o_mkmap : ∃ t', (IOp.mkmap).run T t nx = .ok (.map nx) t' (nx + 1) ∧ hv t' = upd (hv t) nx (some (.map [] 0)) := by
 refine ⟨t.put (some (.map [] 0)) nx, ?_, by rw [hv_put]; rfl⟩
 simp only [IOp.run, fNat_eq]
def mget (es : List (AV × AV × Nat)) (k : Int) : Int := match es with
 | [] => 0
 | (.int .i64 j, .int .i64 v, _) :: es => if k = j then v else mget es k
 | _ :: es => mget es k
def mInt (es : List (AV × AV × Nat)) : Prop := ∀ e ∈ es, ∃ (j v : Int) (b : Nat), e = (.int .i64 j, .int .i64 v, b)
theorem find_int : ∀ {es : List (AV × AV × Nat)} (h : mInt es) (k : Int) (i : Nat), (∃ (m : Nat) (v : Int), findK .int (.int .i64 k) es i = some (some (m, .int .i64 v)) ∧ mget es k = v ∧ i ≤ m ∧ ∃ b, es[m - i]? = some (.int .i64 k, .int .i64 v, b)) ∨ (findK .int (.int .i64 k) es i = some none ∧ mget es k = 0 ∧ ∀ e ∈ es, e.1 ≠ .int .i64 k)
 | [], _, k, i => .inr ⟨rfl, rfl, fun e he => by cases he⟩
 | e :: es, h, k, i => by
   obtain ⟨j, v, b, rfl⟩ := h e (by simp)
   have e1 : cellEq .int (.int .i64 k) (.int .i64 j) = some (decide (k = j)) := by
    show (match Nat.beq (kN .i64) (kN .i64) with | true => some (iEq k j) | false => none) = _
    rw [iEq_eq]; rfl
   have e2 : findK .int (.int .i64 k) ((.int .i64 j, .int .i64 v, b) :: es) i = (match cellEq .int (.int .i64 k) (.int .i64 j) with
    | some true => some (some (i, .int .i64 v))
    | some false => findK .int (.int .i64 k) es (Nat.succ i)
    | none => none) := rfl
   rw [e2, e1]
   by_cases hk : k = j
   · subst hk
     refine .inl ⟨i, v, by simp, by simp [mget], Nat.le_refl _, b, by simp⟩
   · have ih := find_int (es := es) (fun e he => h e (by simp [he])) k (Nat.succ i)
     rw [decide_eq_false hk]
     rcases ih with ⟨m, u, h1, h2, h3, b', h4⟩ | ⟨h1, h2, h3⟩
     · refine .inl ⟨m, u, h1, by simp [mget, hk, h2], by omega, b', ?_⟩
       rw [show m - i = (m - Nat.succ i) + 1 from by omega, List.getElem?_cons_succ]; exact h4
     · refine .inr ⟨h1, by simp [mget, hk, h2], fun e he => ?_⟩
       rcases List.mem_cons.1 he with rfl | he
       · intro e'; cases e'; exact hk rfl
       · exact h3 e he
theorem o_look {x y : Opd} {b : Nat} {es : List (AV × AV × Nat)} {clk : Nat} {k : Int} (hx : x.ev T = some (.map b)) (hy : y.ev T = some (.int .i64 k)) (hb : hv t b = some (.map es clk)) (hm : mInt es) : (IOp.look .int (.int .i64 0) x y false).run T t nx = .ok (.int .i64 (mget es k)) t nx := by
 have h1 := map_iff.1 hb
 simp only [IOp.run, hx, hy, h1]
 rcases find_int hm k 0 with ⟨m, v, e1, e2, -⟩ | ⟨e1, e2, -⟩
 · rw [e1, e2]
 · rw [e1, e2]
section
variable {tab : Nat → Option AFn} {T : TA} {t : TB} {nx : Nat} {ok : TA → TB → Nat → Prop}
def onT (on : List (Nat × Bool)) (g : Option (Nat × Bool)) : Bool := match g with | none => true | some g => on.any (fun h => decide (h = g))
noncomputable def idleT (on : List (Nat × Bool)) (L : List Nat) (F : List (DIns × AV)) (i : DIns) : Bool :=
 !(readyD L i && floatOK i F && !(onT on i.ins.grd && (match i.ins.what with | .op o => !o.light | _ => true)))
def GOn (on : List (Nat × Bool)) (T : TA) : Prop := ∀ g ∈ on, wantA (some g) T = some true
theorem gon_nil : GOn [] T := fun g hg => by cases hg
theorem gon_cons {g : Nat × Bool} {on : List (Nat × Bool)} (h : wantA (some g) T = some true) (k : GOn on T) : GOn (g :: on) T := by
 intro x hx
 rcases List.mem_cons.1 hx with rfl | hx
 · exact h
 · exact k x hx
theorem onT_want {on : List (Nat × Bool)} (hon : GOn on T) {g : Option (Nat × Bool)} (h : onT on g = true) : wantA g T = some true := by
 cases g with
 | none => rfl
 | some g =>
   unfold onT at h
   simp only [List.any_eq_true, decide_eq_true_eq] at h
   obtain ⟨x, hx, rfl⟩ := h
   exact hon _ hx
theorem idleT_skip {on : List (Nat × Bool)} (hon : GOn on T) {L : List Nat} {F : List (DIns × AV)} {i : DIns} (h : idleT on L F i = true) (ops : List DIns) : findF L F T t nx (i :: ops) = findF L F T t nx ops := by
 show (match readyD L i with
  | true => (match floatOK i F with
    | true => (match evalL i.ins T t nx with
      | some v => some (i, v)
      | none => findF L F T t nx ops)
    | false => findF L F T t nx ops)
  | false => findF L F T t nx ops) = _
 unfold idleT at h
 cases h1 : readyD L i with
 | false => rfl
 | true =>
   cases h2 : floatOK i F with
   | false => rfl
   | true =>
     rw [h1, h2] at h
     simp only [Bool.and_self, Bool.true_and, Bool.not_not, Bool.and_eq_true] at h
     have h3 : evalL i.ins T t nx = none := by
      unfold evalL
      rw [onT_want hon h.1]
      dsimp only
      cases hw : i.ins.what with
      | op o =>
        have h5 := h.2
        rw [hw] at h5
        dsimp only at h5 ⊢
        have : o.light = false := by simpa using h5
        rw [this]
      | _ => rfl
     dsimp only
     rw [h3]
theorem idleT_all {on : List (Nat × Bool)} (hon : GOn on T) {L : List Nat} {F : List (DIns × AV)} : ∀ {pre : List DIns}, pre.all (idleT on L F) = true → ∀ (ops : List DIns), findF L F T t nx (pre ++ ops) = findF L F T t nx ops
 | [], _, ops => rfl
 | i :: pre, h, ops => by
   have h' : idleT on L F i = true ∧ pre.all (idleT on L F) = true := by simpa using h
   rw [List.cons_append, idleT_skip hon h'.1, idleT_all hon h'.2]
theorem floatT {on : List (Nat × Bool)} (hon : GOn on T) {k : Nat} {ops : List DIns} {L : List Nat} {F : List (DIns × AV)} {G : List GB} {pre post : List DIns} {i : DIns} {v : AV} (ho : ops = pre ++ i :: post) (hs : (pre.all (idleT on L F) && (readyD L i && floatOK i F)) = true) (he : evalL i.ins T t nx = some v)
  (h : WD tab k ops (i.ix :: L) ((i, v) :: F) G (putD T i.ins.dst v) t nx ok) : WD tab (k + 1) ops L F G T t nx ok := by
 obtain ⟨n, T1, t1, n1, e, hq⟩ := h
 refine ⟨n, T1, t1, n1, ?_, hq⟩
 have hs' : pre.all (idleT on L F) = true ∧ readyD L i = true ∧ floatOK i F = true := by simpa using hs
 unfold drawA
 rw [show findF L F T t nx ops = some (i, v) from by rw [ho, idleT_all hon hs'.1]; exact findF_hit hs'.2.1 hs'.2.2 he]
 exact e
theorem d_opT {on : List (Nat × Bool)} (hon : GOn on T) {k : Nat} {ops : List DIns} {L : List Nat} {F : List (DIns × AV)} {G : List GB} {pre post : List DIns} {ix : Nat} {pr : List Nat} {d : Option Nat} {g : Option (Nat × Bool)} {o : IOp} {v : AV} (ho : o.run T t nx = .ok v t nx) (hg : wantA g T = some true) (hp : ops = pre ++ ⟨ix, pr, ⟨d, g, .op o⟩⟩ :: post) (hs : (pre.all (idleT on L F) && (readyD L ⟨ix, pr, ⟨d, g, .op o⟩⟩ && floatOK ⟨ix, pr, ⟨d, g, .op o⟩⟩ F)) = true) (hl : o.light = true)
 (h : WD tab k ops (ix :: L) ((⟨ix, pr, ⟨d, g, .op o⟩⟩, v) :: F) G (putD T d v) t nx ok) : WD tab (k + 1) ops L F G T t nx ok := floatT hon hp hs (evalL_op hg hl ho) h
theorem d_offT {on : List (Nat × Bool)} (hon : GOn on T) {k : Nat} {ops : List DIns} {L : List Nat} {F : List (DIns × AV)} {G : List GB} {pre post : List DIns} {ix : Nat} {pr : List Nat} {d : Option Nat} {g : Option (Nat × Bool)} {w : What} (hg : wantA g T = some false) (hp : ops = pre ++ ⟨ix, pr, ⟨d, g, w⟩⟩ :: post) (hs : (pre.all (idleT on L F) && (readyD L ⟨ix, pr, ⟨d, g, w⟩⟩ && floatOK ⟨ix, pr, ⟨d, g, w⟩⟩ F)) = true)
 (h : WD tab k ops (ix :: L) ((⟨ix, pr, ⟨d, g, w⟩⟩, .undef) :: F) G (putD T d .undef) t nx ok) : WD tab (k + 1) ops L F G T t nx ok := floatT hon hp hs (evalL_off hg) h
theorem d_heapT {on : List (Nat × Bool)} (hon : GOn on T) {k : Nat} {ops : List DIns} {L : List Nat} {F F' : List (DIns × AV)} {ix : Nat} {pr : List Nat} {d : Option Nat} {g : Option (Nat × Bool)} {o : IOp} {v : AV} {nx' : Nat} {P : TB → Prop} (ho : ∃ t', o.run T t nx = .ok v t' nx' ∧ P t') (hg : wantA g T = some true)
  (hi : ops.all (idleT on L F) = true) (hr : ops.filter (readyD L) = [⟨ix, pr, ⟨d, g, .op o⟩⟩]) (hF : keepF ops ⟨ix, pr, ⟨d, g, .op o⟩⟩ F = F') (ha : apartF ⟨ix, pr, ⟨d, g, .op o⟩⟩ F' = true)
  (hk : ∀ t', P t' → (∀ f ∈ F', still (putD T d v) t' nx' f) ∧ WD tab k ops (ix :: L) F' [] (putD T d v) t' nx' ok) : WD tab (k + 1) ops L F [] T t nx ok := by
 obtain ⟨t', eo, hp⟩ := ho
 obtain ⟨hs, n, T1, t1, n1, e, hq⟩ := hk t' hp
 refine ⟨n, T1, t1, n1, ?_, hq⟩
 unfold drawA
 rw [show findF L F T t nx ops = none from by have := idleT_all (t := t) (nx := nx) hon hi []; rw [List.append_nil] at this; rw [this]; rfl, hr]
 dsimp only
 rw [show findIn (closeD ops 3 pr) [] = none from rfl]
 dsimp only
 rw [show F.filter (fun f => Bool.not (nIn f.1.ix (closeD ops 3 pr))) = F' from hF, show F'.all (fun f => Bool.and (Bool.not (dEq f.1.ins.dst d)) (Bool.and (Bool.not (dIn d f.1.ins.rd)) (Bool.not (dIn f.1.ins.dst (DIns.mk ix pr ⟨d, g, .op o⟩).ins.rd)))) = true from ha]
 dsimp only
 rw [hg]
 dsimp only [What.run]
 rw [eo]
 dsimp only
 rw [sameF_of hs]
 exact e
theorem d_callT {on : List (Nat × Bool)} (hon : GOn on T) {k : Nat} {ops : List DIns} {L : List Nat} {F F' : List (DIns × AV)} {ix : Nat} {pr : List Nat} {d : Option Nat} {g : Option (Nat × Bool)} {w : What} {f : FuncId} {vs : List AV} (hw : ∀ c : CallT, w.run c T t nx = c f vs t nx) (hg : wantA g T = some true)
  (hi : ops.all (idleT on L F) = true) (hr : ops.filter (readyD L) = [⟨ix, pr, ⟨d, g, w⟩⟩]) (hF : keepF ops ⟨ix, pr, ⟨d, g, w⟩⟩ F = F') (ha : apartF ⟨ix, pr, ⟨d, g, w⟩⟩ F' = true)
  (hc : WF tab f vs t nx (fun v t' nx' => (∀ f ∈ F', still (putD T d v) t' nx' f) ∧ WD tab k ops (ix :: L) F' [] (putD T d v) t' nx' ok)) : WD tab (k + 1) ops L F [] T t nx ok := by
 obtain ⟨n, v, t1, n1, e1, hs, m, T2, t2, n2, e2, hq⟩ := hc
 refine ⟨max n m, T2, t2, n2, ?_, hq⟩
 unfold drawA
 rw [show findF L F T t nx ops = none from by have := idleT_all (t := t) (nx := nx) hon hi []; rw [List.append_nil] at this; rw [this]; rfl, hr]
 dsimp only
 rw [show findIn (closeD ops 3 pr) [] = none from rfl]
 dsimp only
 rw [show F.filter (fun f => Bool.not (nIn f.1.ix (closeD ops 3 pr))) = F' from hF, show F'.all (fun f => Bool.and (Bool.not (dEq f.1.ins.dst d)) (Bool.and (Bool.not (dIn d f.1.ins.rd)) (Bool.not (dIn f.1.ins.dst (DIns.mk ix pr ⟨d, g, w⟩).ins.rd)))) = true from ha]
 dsimp only
 rw [hg]
 dsimp only
 rw [hw, callA_mono tab (Nat.le_max_left n m) _ _ _ _ _ _ _ e1]
 dsimp only
 rw [sameF_of hs]
 dsimp only
 rw [draw_mono (callA_mono tab (Nat.le_max_right n m)) _ _ _ _ _ _ _ _ (by rw [e2]; rfl), e2]
end
section
variable {tab : Nat → Option AFn} {T : TA} {t : TB} {nx : Nat} {ok : TA → TB → Nat → Prop}
theorem at_split {α : Type} {ops : List α} {m : Nat} {x : α} (h : ops[m]? = some x) : ops = ops.take m ++ x :: ops.drop (m + 1) := by
 obtain ⟨h1, rfl⟩ := List.getElem?_eq_some_iff.1 h
 rw [← List.drop_eq_getElem_cons h1, List.take_append_drop]
theorem e_op {k : Nat} {ops : List DIns} {L : List Nat} {F : List (DIns × AV)} {G : List GB} (m : Nat) {ix : Nat} {pr : List Nat} {d : Option Nat} {g : Option (Nat × Bool)} {o : IOp} {v : AV} (hm : ops[m]? = some ⟨ix, pr, ⟨d, g, .op o⟩⟩) (ho : o.run T t nx = .ok v t nx) (hg : wantA g T = some true)
  (h : WD tab k ops (ix :: L) ((⟨ix, pr, ⟨d, g, .op o⟩⟩, v) :: F) G (putD T d v) t nx ok) (hs : ((ops.take m).all (idle L F) && (readyD L ⟨ix, pr, ⟨d, g, .op o⟩⟩ && floatOK ⟨ix, pr, ⟨d, g, .op o⟩⟩ F)) = true := by kernel_rfl) (hl : o.light = true := by rfl) : WD tab (k + 1) ops L F G T t nx ok :=
 d_op ho hg (at_split hm) hs hl h
theorem e_off {k : Nat} {ops : List DIns} {L : List Nat} {F : List (DIns × AV)} {G : List GB} (m : Nat) {ix : Nat} {pr : List Nat} {d : Option Nat} {g : Option (Nat × Bool)} {w : What} (hm : ops[m]? = some ⟨ix, pr, ⟨d, g, w⟩⟩) (hg : wantA g T = some false)
  (h : WD tab k ops (ix :: L) ((⟨ix, pr, ⟨d, g, w⟩⟩, .undef) :: F) G (putD T d .undef) t nx ok) (hs : ((ops.take m).all (idle L F) && (readyD L ⟨ix, pr, ⟨d, g, w⟩⟩ && floatOK ⟨ix, pr, ⟨d, g, w⟩⟩ F)) = true := by kernel_rfl) : WD tab (k + 1) ops L F G T t nx ok :=
 d_off hg (at_split hm) hs h
theorem e_opT {on : List (Nat × Bool)} (hon : GOn on T) {k : Nat} {ops : List DIns} {L : List Nat} {F : List (DIns × AV)} {G : List GB} (m : Nat) {ix : Nat} {pr : List Nat} {d : Option Nat} {g : Option (Nat × Bool)} {o : IOp} {v : AV} (hm : ops[m]? = some ⟨ix, pr, ⟨d, g, .op o⟩⟩) (ho : o.run T t nx = .ok v t nx) (hg : wantA g T = some true)
  (h : WD tab k ops (ix :: L) ((⟨ix, pr, ⟨d, g, .op o⟩⟩, v) :: F) G (putD T d v) t nx ok) (hs : ((ops.take m).all (idleT on L F) && (readyD L ⟨ix, pr, ⟨d, g, .op o⟩⟩ && floatOK ⟨ix, pr, ⟨d, g, .op o⟩⟩ F)) = true := by kernel_rfl) (hl : o.light = true := by rfl) : WD tab (k + 1) ops L F G T t nx ok :=
 d_opT hon ho hg (at_split hm) hs hl h
theorem e_offT {on : List (Nat × Bool)} (hon : GOn on T) {k : Nat} {ops : List DIns} {L : List Nat} {F : List (DIns × AV)} {G : List GB} (m : Nat) {ix : Nat} {pr : List Nat} {d : Option Nat} {g : Option (Nat × Bool)} {w : What} (hm : ops[m]? = some ⟨ix, pr, ⟨d, g, w⟩⟩) (hg : wantA g T = some false)
  (h : WD tab k ops (ix :: L) ((⟨ix, pr, ⟨d, g, w⟩⟩, .undef) :: F) G (putD T d .undef) t nx ok) (hs : ((ops.take m).all (idleT on L F) && (readyD L ⟨ix, pr, ⟨d, g, w⟩⟩ && floatOK ⟨ix, pr, ⟨d, g, w⟩⟩ F)) = true := by kernel_rfl) : WD tab (k + 1) ops L F G T t nx ok :=
 d_offT hon hg (at_split hm) hs h
theorem e_done {k : Nat} {ops : List DIns} {L : List Nat} {F : List (DIns × AV)} (h : ok T t nx) (hi : ops.all (idle L F) = true := by kernel_rfl) (hr : ops.filter (readyD L) = [] := by kernel_rfl) : WD tab (k + 1) ops L F [] T t nx ok := d_done hi hr h
theorem m1 {d i : Nat} {l : List Ins} {v : AV} (h : T.get i = some v) (k : WR tab l (putD T (some d) v) t nx ok) : WR tab (⟨some d, none, .op (.mov (.t i))⟩ :: l) T t nx ok := r_op (o_mov (ev_t h)) rfl k
end
abbrev LI := List Ins
abbrev Ins.mv (d s : Nat) : Ins := ⟨some d, none, .op (.mov (.t s))⟩
abbrev Ins.o (d : Nat) (x : IOp) : Ins := ⟨some d, none, .op x⟩
abbrev Ins.x (x : IOp) : Ins := ⟨none, none, .op x⟩
abbrev Ins.g (d s : Nat) (b : Bool) (x : IOp) : Ins := ⟨some d, some (s, b), .op x⟩
abbrev Ins.f (d : Nat) (f : FuncId) (l : List Opd) : Ins := ⟨some d, none, .callF f l⟩
abbrev kI (n : Int) : Opd := .c (.int .i64 n)
section
variable {tab : Nat → Option AFn} {T : TA} {t t' : TB} {nx : Nat} {ok rt : K} {ex : Nat → K}
theorem eZ {v : AV} {d : Nat} : (Opd.t d).ev (putD T (some d) v) = some v := ds
theorem eV {i : Nat} {v : AV} (h : T.get i = some v) : (Opd.t i).ev T = some v := h
theorem rO {d : Option Nat} {o : IOp} {l : List Ins} {v : AV} (ho : o.run T t nx = .ok v t nx) (h : WR tab l (putD T d v) t nx ok) : WR tab (⟨d, none, .op o⟩ :: l) T t nx ok := r_op ho rfl h
theorem eO {k : Nat} {ops : List DIns} {L : List Nat} {F : List (DIns × AV)} {G : List GB} (m : Nat) {ix : Nat} {pr : List Nat} {d : Option Nat} {o : IOp} {v : AV} (hm : ops[m]? = some ⟨ix, pr, ⟨d, none, .op o⟩⟩) (ho : o.run T t nx = .ok v t nx)
  (h : WD tab k ops (ix :: L) ((⟨ix, pr, ⟨d, none, .op o⟩⟩, v) :: F) G (putD T d v) t nx ok) (hs : ((ops.take m).all (idle L F) && (readyD L ⟨ix, pr, ⟨d, none, .op o⟩⟩ && floatOK ⟨ix, pr, ⟨d, none, .op o⟩⟩ F)) = true := by kernel_rfl) (hl : o.light = true := by rfl) : WD tab (k + 1) ops L F G T t nx ok :=
 e_op m hm ho rfl h hs hl
theorem wN {s : Nat} {w u : Bool} (h : T.get s = some (.bool u)) (hn : u = !w := by exact rfl) : wantA (some (s, w)) T = some false := want_not h hn
theorem kU {W : Nat → Prop} {t0 : TB} {b : Nat} {x : Option HB} (h : Keep t0 t nx W) (e : hv t' = upd (hv t) b x) (hb : nx ≤ b := by omega) : Keep t0 t' nx W := h.upd e (.inl hb)
theorem kR {W : Nat → Prop} : Keep t t nx W := Keep.refl _ _ _
theorem lN {b c : Nat} {x r : Option HB} (h : hv t' = upd (hv t) b x) (e : hv t c = r) (hn : c ≠ b := by omega) : hv t' c = r := look_ne h hn e
theorem lS {H : Hp} {b : Nat} {x : Option HB} (h : hv t = upd H b x) : hv t b = x := look_same h
theorem k_if {x : Opd} {a b : IC} {p : Prop} [Decidable p] (hx : x.ev T = some (.bool (decide p))) (h1 : p → WC tab a T t nx (K3 ok ex rt)) (h2 : ¬ p → WC tab b T t nx (K3 ok ex rt)) : WC tab (.cond x a b) T t nx (K3 ok ex rt) := k_cond hx (fun h => h1 (of_decide_eq_true h)) (fun h => h2 (of_decide_eq_false h))
theorem k_in {x : Opd} {a b : IC} {p : Prop} [Decidable p] (hx : x.ev T = some (.bool (!decide p))) (h1 : ¬ p → WC tab a T t nx (K3 ok ex rt)) (h2 : p → WC tab b T t nx (K3 ok ex rt)) : WC tab (.cond x a b) T t nx (K3 ok ex rt) := k_cond hx (fun h => h1 (nd_t h)) (fun h => h2 (nd_f h))
end
end Go.Proofs.YtpjohgnhmjceiaaGreatDoor.AX

