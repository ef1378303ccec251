/- The symbolic heap: regions that may run in any order that their edges leave open. Own work of this claim. -/
import Derived.Test.YtbcnkfkmonpdeaaSq
import Derived.Orders
namespace Go.Proofs.Ytbcnkfkmonpdeaa.S
set_option linter.all false
open Go

section
variable {β : Type}
def keyed (k : Nat) (w : List (Nat × β)) : Bool := w.any fun p => p.1 == k
theorem aget_setsH_no {k : Nat} : ∀ {w s : List (Nat × β)}, keyed k w = false → aget (setsH s w) k = aget s k
  | [], _, _ => rfl
  | (t, v) :: r, s, h => by
    simp only [keyed, List.any_cons, Bool.or_eq_false_iff, beq_eq_false_iff_ne] at h
    rw [setsH, aget_setsH_no (w := r) h.2, aget_aset, if_neg h.1]
theorem aget_setsH_congr {k : Nat} : ∀ {w s s' : List (Nat × β)}, aget s k = aget s' k → aget (setsH s w) k = aget (setsH s' w) k
  | [], _, _, h => h
  | (t, v) :: r, s, s', h => by
    refine aget_setsH_congr (w := r) ?_
    rw [aget_aset, aget_aset]; split
    · rfl
    · exact h
theorem setsH_append (s : List (Nat × β)) : ∀ w w', setsH s (w ++ w') = setsH (setsH s w) w'
  | [], _ => rfl
  | (t, v) :: r, w' => setsH_append (aset s t v) r w'
/-- The writings of the events in a set, in the text's order. -/
def appS (S : Nat → Bool) : Nat → List (List (Nat × β)) → List (Nat × β) → List (Nat × β)
  | _, [], s => s
  | i, w :: ws, s => appS S (i + 1) ws (bif S i then setsH s w else s)
theorem appS_agree {S S' : Nat → Bool} {k : Nat} : ∀ (ws : List (List (Nat × β))) (i : Nat) (s s' : List (Nat × β)), aget s k = aget s' k →
    (∀ j w, ws[j]? = some w → keyed k w = true → S (i + j) = S' (i + j)) → aget (appS S i ws s) k = aget (appS S' i ws s') k
  | [], _, _, _, h, _ => h
  | w :: ws, i, s, s', h, ha => by
    refine appS_agree ws (i + 1) _ _ ?_ fun j w' hj hk => ?_
    · cases hk : keyed k w
      · have e1 : aget (bif S i then setsH s w else s) k = aget s k := by cases S i <;> simp [aget_setsH_no hk]
        have e2 : aget (bif S' i then setsH s' w else s') k = aget s' k := by cases S' i <;> simp [aget_setsH_no hk]
        rw [e1, e2, h]
      · have := ha 0 w (by simp) hk
        rw [Nat.add_zero] at this
        rw [this]
        cases S' i
        · exact h
        · exact aget_setsH_congr h
    · have := ha (j + 1) w' (by simpa using hj) hk
      rwa [Nat.add_assoc, Nat.add_comm 1 j]
/-- The writings of the first events. -/
def runs : List (List (Nat × β)) → List (Nat × β) → List (Nat × β)
  | [], s => s
  | w :: ws, s => runs ws (setsH s w)
theorem appS_lt (m : Nat) : ∀ (ws : List (List (Nat × β))) (i : Nat) (s : List (Nat × β)), appS (fun j => decide (j < m)) i ws s = runs (ws.take (m - i)) s
  | [], i, s => by simp [appS, runs]
  | w :: ws, i, s => by
    simp only [appS]
    by_cases h : i < m
    · obtain ⟨d, hd⟩ : ∃ d, m - i = d + 1 := ⟨m - i - 1, by omega⟩
      rw [appS_lt m ws (i + 1)]
      simp only [h, decide_true, cond_true, hd, List.take_succ_cons, runs]
      have : m - (i + 1) = d := by omega
      rw [this]
    · rw [appS_lt m ws (i + 1)]
      have h1 : m - i = 0 := by omega
      have h2 : m - (i + 1) = 0 := by omega
      simp [h, h1, h2, runs]
theorem runs_append : ∀ (ws ws' : List (List (Nat × β))) (s : List (Nat × β)), runs (ws ++ ws') s = runs ws' (runs ws s)
  | [], _, _ => rfl
  | w :: ws, ws', s => runs_append ws ws' (setsH s w)
theorem keyed_setsH {k : Nat} : ∀ {w s s' : List (Nat × β)}, keyed k w = true → aget (setsH s w) k = aget (setsH s' w) k
  | [], _, _, h => by simp [keyed] at h
  | (t, v) :: r, s, s', h => by
    by_cases ht : t = k
    · refine aget_setsH_congr (w := r) ?_
      rw [aget_aset, aget_aset, if_pos ht, if_pos ht]
    · refine keyed_setsH (w := r) ?_
      simpa [keyed, ht] using h
/-- One more event, when the set holds all earlier writers of what it touches and no later one. -/
theorem appS_step {S : Nat → Bool} {ws : List (List (Nat × β))} {i : Nat} {w : List (Nat × β)} (hi : ws[i]? = some w) (hS : S i = false) {s : List (Nat × β)}
    (hw : ∀ k, keyed k w = true → ∀ j w', ws[j]? = some w' → keyed k w' = true → j ≠ i → S j = decide (j < i)) (k : Nat) :
    aget (appS (fun j => S j || j == i) 0 ws s) k = aget (setsH (appS S 0 ws s) w) k := by
  cases hk : keyed k w
  · rw [aget_setsH_no hk]
    refine appS_agree ws 0 s s rfl fun j w' hj hk' => ?_
    have : j ≠ i := by rintro rfl; rw [hi] at hj; cases hj; rw [hk] at hk'; cases hk'
    simp [this]
  · have e1 : aget (appS (fun j => S j || j == i) 0 ws s) k = aget (appS (fun j => decide (j < i + 1)) 0 ws s) k := by
      refine appS_agree ws 0 s s rfl fun j w' hj hk' => ?_
      simp only [Nat.zero_add]
      by_cases e : j = i
      · subst e; simp
      · rw [hw k hk j w' hj hk' e]
        simp only [beq_eq_false_iff_ne.2 e, Bool.or_false]
        by_cases h : j < i
        · simp [h, Nat.lt_succ_of_lt h]
        · have : ¬ j < i + 1 := by omega
          simp [h, this]
    rw [e1, appS_lt]
    have hlt : i < ws.length := (List.getElem?_eq_some_iff.1 hi).1
    have hw' : ws[i] = w := (List.getElem?_eq_some_iff.1 hi).2
    rw [Nat.sub_zero, List.take_succ_eq_append_getElem hlt, runs_append, hw']
    simp only [runs]
    exact keyed_setsH hk
end

/-! Events -/
structure EvD where
  sl : List Nat
  nr : List Nat
  dst : Option Nat
  v : AV
  d : List (Nat × Ent)
def EvD.wE (e : EvD) : List (Nat × AV) := match e.dst with
  | some t => [(t, e.v)]
  | none => []
def clash (a b : EvD) : Bool :=
  (match a.dst with | some t => b.sl.contains t || b.dst == some t | none => false) || (match b.dst with | some t => a.sl.contains t | none => false) ||
  a.d.any (fun p => b.nr.contains p.1 || keyed p.1 b.d) || b.d.any fun p => a.nr.contains p.1
def direct (o : Oper) : List Nat := (o.after.toList.filter fun e => Region.binds .any e).map (·.on)
/-- Sets of predecessors, as numbers. -/
def orAll (acc : List Nat) : List Nat → Nat
  | [] => 0
  | j :: r => (2 ^ j ||| acc.getD j 0) ||| orAll acc r
def ancT : List Oper → List Nat → List Nat
  | [], acc => acc
  | o :: os, acc => ancT os (acc ++ [orAll acc (direct o)])
def indep1 (an : List Nat) (b : EvD) (bi : Nat) : Nat → List EvD → Bool
  | _, [] => true
  | ai, a :: r => (!clash a b || (an.getD bi 0).testBit ai) && indep1 an b bi (ai + 1) r
def indep2 (an : List Nat) : Nat → List EvD → List EvD → Bool
  | _, _, [] => true
  | bi, pre, b :: r => indep1 an b bi 0 pre && indep2 an (bi + 1) (pre ++ [b]) r
def indep (ops : List Oper) (evs : List EvD) : Bool := indep2 (ancT ops []) 0 [] evs

theorem orAll_bit {acc : List Nat} {S : Nat → Bool} : ∀ {ds : List Nat}, (∀ j ∈ ds, S j = true) → (∀ j m, S j = true → (acc.getD j 0).testBit m = true → S m = true) → ∀ m, (orAll acc ds).testBit m = true → S m = true
  | [], _, _, m, h => by simp [orAll] at h
  | j :: r, hd, ha, m, h => by
    simp only [orAll, Nat.testBit_or, Bool.or_eq_true] at h
    rcases h with (h | h) | h
    · rw [Nat.testBit_two_pow] at h
      have := of_decide_eq_true h
      subst this; exact hd j (by simp)
    · exact ha j m (hd j (by simp)) h
    · exact orAll_bit (fun x hx => hd x (by simp [hx])) ha m h
/-- What must come ahead lies in every set that is closed under the edges. -/
theorem ancT_closed {S : Nat → Bool} : ∀ (os : List Oper) (acc : List Nat), (∀ j o, os[j]? = some o → S (acc.length + j) = true → ∀ d ∈ direct o, S d = true) →
    (∀ j m, S j = true → (acc.getD j 0).testBit m = true → S m = true) → ∀ j m, S j = true → ((ancT os acc).getD j 0).testBit m = true → S m = true
  | [], _, _, ha => ha
  | o :: os, acc, hc, ha => by
    refine ancT_closed os (acc ++ [orAll acc (direct o)]) (fun j o' ho hj => ?_) ?_
    · refine hc (j + 1) o' (by simpa using ho) ?_
      rw [← hj]; congr 1; simp; omega
    · intro j m hj hm
      rcases Nat.lt_trichotomy j acc.length with h | h | h
      · have : (acc ++ [orAll acc (direct o)]).getD j 0 = acc.getD j 0 := by simp [List.getD_eq_getElem?_getD, List.getElem?_append_left h]
        rw [this] at hm
        exact ha j m hj hm
      · subst h
        have : (acc ++ [orAll acc (direct o)]).getD acc.length 0 = orAll acc (direct o) := by simp [List.getD_eq_getElem?_getD]
        rw [this] at hm
        exact orAll_bit (hc 0 o (by simp) (by simpa using hj)) ha m hm
      · have : (acc ++ [orAll acc (direct o)]).getD j 0 = 0 := by
          have : (acc ++ [orAll acc (direct o)])[j]? = none := by rw [List.getElem?_eq_none_iff]; simp; omega
          simp [List.getD_eq_getElem?_getD, this]
        rw [this] at hm
        simp at hm
theorem indep1_get {an : List Nat} {b : EvD} {bi : Nat} : ∀ {l : List EvD} {o : Nat}, indep1 an b bi o l = true → ∀ {j a}, l[j]? = some a → clash a b = true → (an.getD bi 0).testBit (o + j) = true
  | [], _, _, j, a, h, _ => by simp at h
  | x :: r, o, h, j, a, hj, hc => by
    simp only [indep1, Bool.and_eq_true] at h
    cases j with
    | zero =>
      simp at hj; subst hj
      have := h.1
      rw [hc] at this
      simpa using this
    | succ j =>
      have := indep1_get (l := r) (o := o + 1) h.2 (j := j) (by simpa using hj) hc
      rw [← this]; congr 1; omega
theorem indep2_get {an : List Nat} : ∀ {l pre : List EvD}, indep2 an pre.length pre l = true → ∀ {i j a b}, (pre ++ l)[i]? = some b → pre.length ≤ i → j < i → (pre ++ l)[j]? = some a → clash a b = true → (an.getD i 0).testBit j = true
  | [], pre, _, i, j, a, b, hi, hle, _, _, _ => by
    rw [List.append_nil, List.getElem?_eq_none_iff.2 hle] at hi; cases hi
  | x :: r, pre, h, i, j, a, b, hi, hle, hlt, hj, hc => by
    simp only [indep2, Bool.and_eq_true] at h
    rcases Nat.lt_or_ge pre.length i with h' | h'
    · refine indep2_get (l := r) (pre := pre ++ [x]) (by simpa using h.2) (i := i) (j := j) (a := a) (b := b) (by simpa using hi) (by simp; omega) hlt (by simpa using hj) hc
    · have e : i = pre.length := by omega
      subst e
      have hb : b = x := by simpa using hi.symm
      subst hb
      have hja : pre[j]? = some a := by rwa [List.getElem?_append_left hlt] at hj
      have := indep1_get h.1 hja hc
      simpa using this
theorem indep_get {ops : List Oper} {evs : List EvD} (h : indep ops evs = true) {i j : Nat} {a b : EvD} (hi : evs[i]? = some b) (hlt : j < i) (hj : evs[j]? = some a) (hc : clash a b = true) : ((ancT ops []).getD i 0).testBit j = true :=
  indep2_get (pre := []) h (by simpa using hi) (by simp) hlt (by simpa using hj) hc

/-! Where an event may stand -/
def gslots (all : List Oper) (o : Oper) : List Nat := match o.guard with
  | none => []
  | some (j, _) => match (all[j]?).bind (·.dst) with
    | some d => [d]
    | none => []
def tmpOf : Operand → Option Nat
  | .tmp t => some t
  | _ => none
def slots (all : List Oper) (o : Oper) : List Nat := o.op.operands.toList.filterMap tmpOf ++ gslots all o
theorem gA_congr {all : List Oper} {o : Oper} {env env' : Env} (h : ∀ t ∈ gslots all o, env.get t = env'.get t) : gA all env o = gA all env' o := by
  unfold gslots at h
  unfold gA
  split
  · rfl
  · rename_i j want hg
    rw [hg] at h
    simp only at h
    split
    · rename_i d hd
      rw [hd] at h
      simp only [List.mem_singleton, forall_eq] at h
      rw [h]
    · rfl
/-- An event of an operation, valid wherever what it reads is as it was. -/
def EvOk (P : Program) (call : CallT) (all : List Oper) (nm : Nat) (o : Oper) (e : EvD) (env0 : Env) (H0 : Heap) : Prop :=
  o.dst = e.dst ∧ ∀ env H, (∀ t ∈ e.sl, env.get t = env0.get t) → (∀ n ∈ e.nr, aget H n = aget H0 n) →
    ∃ g, gA all env o = some g ∧ (g = true → ∀ K : Kt, (∀ H', (∀ n, aget H' n = aget (setsH H e.d) n) → K e.v H') → stp P call nm o env H K) ∧ (g = false → e.v = .tup [] ∧ e.d = [])
def EvAll (P : Program) (call : CallT) (all : List Oper) (id : Nat) : Nat → List Oper → List EvD → Env → Heap → Prop
  | _, [], [], _, _ => True
  | i, o :: os, e :: es, env, H => EvOk P call all (nmOf id i) o e env H ∧ EvAll P call all id (i + 1) os es (setsH env e.wE) (setsH H e.d)
  | _, _, _, _, _ => False
theorem EvAll.len {P : Program} {call : CallT} {all : List Oper} {id : Nat} : ∀ {os : List Oper} {es : List EvD} {i : Nat} {env : Env} {H : Heap}, EvAll P call all id i os es env H → os.length = es.length
  | [], [], _, _, _, _ => rfl
  | _ :: os, _ :: es, _, _, _, h => by simp [EvAll.len h.2]
  | [], _ :: _, _, _, _, h => h.elim
  | _ :: _, [], _, _, _, h => h.elim
theorem EvAll.get {P : Program} {call : CallT} {all : List Oper} {id : Nat} : ∀ {os : List Oper} {es : List EvD} {i : Nat} {env : Env} {H : Heap}, EvAll P call all id i os es env H →
    ∀ {j o e}, os[j]? = some o → es[j]? = some e → EvOk P call all (nmOf id (i + j)) o e (runs ((es.map EvD.wE).take j) env) (runs ((es.map EvD.d).take j) H)
  | [], [], _, _, _, _, j, o, e, ho, _ => by simp at ho
  | o' :: os, e' :: es, i, env, H, h, j, o, e, ho, he => by
    cases j with
    | zero => simp at ho he; subst ho; subst he; exact h.1
    | succ j =>
      have := EvAll.get h.2 (j := j) (by simpa using ho) (by simpa using he)
      rw [Nat.add_assoc, Nat.add_comm 1 j] at this
      exact this
  | [], _ :: _, _, _, _, h, _, _, _, _, _ => h.elim
  | _ :: _, [], _, _, _, h, _, _, _, _, _ => h.elim
theorem keyed_wE {k : Nat} {e : EvD} (h : keyed k e.wE = true) : e.dst = some k := by
  unfold EvD.wE at h
  split at h
  · rename_i t ht
    simp [keyed] at h
    rw [ht, h]
  · simp [keyed] at h
def backB : Nat → List Oper → Bool
  | _, [] => true
  | i, o :: os => (direct o).all (fun d => decide (d < i)) && backB (i + 1) os
theorem backB_get : ∀ {os : List Oper} {i : Nat}, backB i os = true → ∀ {j o}, os[j]? = some o → ∀ d ∈ direct o, d < i + j
  | [], _, _, j, o, h => by simp at h
  | x :: os, i, h, j, o, ho => by
    simp only [backB, Bool.and_eq_true] at h
    cases j with
    | zero =>
      simp at ho; subst ho
      intro d hd
      have := List.all_eq_true.1 h.1 d hd
      simpa using this
    | succ j =>
      intro d hd
      have := backB_get h.2 (j := j) (by simpa using ho) d hd
      omega

theorem Inv.congr {G : Nat → Prop} {hp : HP} {ν : Nm} {H H' : Heap} {w : World} (h : Inv G hp ν H w) (e : ∀ n, aget H' n = aget H n) : Inv G hp ν H' w :=
  ⟨fun n x hx => h.er n x (by rwa [e] at hx), fun n m x y hx ho hy hl hne => h.inj n m x y (by rwa [e] at hx) ho (by rwa [e] at hy) hl hne,
   fun n hn => h.dom n (by rwa [e] at hn), h.gfr, fun n hn => ⟨(h.nb n hn).1, by rw [e]; exact (h.nb n hn).2⟩, fun n x L hx => h.own n x L (by rwa [e] at hx), h.fx⟩
theorem St.congr {G : Nat → Prop} {hp : HP} {nt : Nat} {ν : Nm} {env env' : Env} {H H' : Heap} {a : Act} {w : World} (h : St G hp nt ν env H a w) (he : ∀ t, aget env' t = aget env t) (hh : ∀ n, aget H' n = aget H n) : St G hp nt ν env' H' a w :=
  ⟨h.defers, h.size, fun t => by have := h.env t; simpa [Env.get, he] using this, h.inv.congr hh⟩

section
variable {P : Program} {G : Nat → Prop} {hp : HP} {nt : Nat}
theorem draw_sound {call : CallT} (hc : CallOk P call) {ops : Array Oper} (hd : dstOk nt ops = true) {id : Nat} {evs : List EvD} {env0 : Env} {H0 : Heap} {Q : Exit → Act → World → Prop}
    (hev : EvAll P call ops.toList id 0 ops.toList evs env0 H0) (hind : indep ops.toList evs = true) (hback : backB 0 ops.toList = true)
    (hQ : ∀ ν a w, St G hp nt ν (runs (evs.map EvD.wE) env0) (runs (evs.map EvD.d) H0) a w → Q .normal a w) :
    ∀ (fuel : Nat) (listed : Array Bool) (ν : Nm) (env : Env) (H : Heap) (a : Act) (w : World), listed.size = ops.size → listed.toList.count false = fuel →
      (∀ j o, ops.toList[j]? = some o → listed.getD j false = true → ∀ d ∈ direct o, listed.getD d false = true) →
      (∀ t, aget env t = aget (appS (fun j => listed.getD j false) 0 (evs.map EvD.wE) env0) t) → (∀ n, aget H n = aget (appS (fun j => listed.getD j false) 0 (evs.map EvD.d) H0) n) →
      St G hp nt ν env H a w → wpAny P .any ops Q fuel listed a w := by
  have hlen : ops.toList.length = evs.length := hev.len
  have fin : ∀ (listed : Array Bool) (ν : Nm) (env : Env) (H : Heap) (a : Act) (w : World), listed.size = ops.size → (∀ j, j < ops.size → listed.getD j false = true) →
      (∀ t, aget env t = aget (appS (fun j => listed.getD j false) 0 (evs.map EvD.wE) env0) t) → (∀ n, aget H n = aget (appS (fun j => listed.getD j false) 0 (evs.map EvD.d) H0) n) →
      St G hp nt ν env H a w → Q .normal a w := by
    intro listed ν env H a w hsz hl he hh st
    have all : ∀ {β : Type} (f : EvD → List (Nat × β)) (s : List (Nat × β)) (k : Nat), aget (appS (fun j => listed.getD j false) 0 (evs.map f) s) k = aget (runs (evs.map f) s) k := by
      intro β f s k
      have e : runs (evs.map f) s = appS (fun j => decide (j < evs.length)) 0 (evs.map f) s := by rw [appS_lt, Nat.sub_zero, List.take_of_length_le (by simp)]
      rw [e]
      refine appS_agree _ 0 s s rfl fun j w' hj _ => ?_
      have hlt : j < evs.length := by
        have := (List.getElem?_eq_some_iff.1 hj).1
        simpa using this
      simp only [Nat.zero_add, hlt, decide_true]
      exact hl j (by simpa [← hlen] using hlt)
    exact hQ ν a w (st.congr (fun t => by rw [he, all]) (fun n => by rw [hh, all]))
  intro fuel
  induction fuel with
  | zero =>
    intro listed ν env H a w hsz hcount hcl he hh st
    have hl : ∀ j, j < ops.size → listed.getD j false = true := by
      intro j hj
      have hj' : j < listed.toList.length := by simpa [hsz] using hj
      have hne : false ∉ listed.toList := List.count_eq_zero.1 hcount
      have : listed.toList[j] ≠ false := fun e => hne (e ▸ List.getElem_mem hj')
      have hj2 : j < listed.size := by omega
      simpa [Array.getD, hj2] using this
    refine ⟨?_, fin listed ν env H a w hsz hl he hh st⟩
    cases hr : Region.ready .any ops listed with
    | nil => rfl
    | cons x xs =>
      have hx : x ∈ Region.ready .any ops listed := by rw [hr]; simp
      obtain ⟨h1, o, ho, _⟩ := mem_ready.1 hx
      have hlt : x < ops.size := (Array.getElem?_eq_some_iff.1 ho).1
      have := hl x hlt
      have hx2 : x < listed.size := by omega
      simp [Array.getD, hx2] at h1 this
      rw [this] at h1; cases h1
  | succ fuel ih =>
    intro listed ν env H a w hsz hcount hcl he hh st
    refine ⟨fun hr => fin listed ν env H a w hsz ?_ he hh st, fun i hi => ?_⟩
    · intro j
      induction j using Nat.strongRecOn with
      | _ j ihj =>
        intro hj
        cases hlj : listed.getD j false with
        | true => rfl
        | false =>
          have hj2 : j < listed.size := by omega
          obtain ⟨o, ho⟩ : ∃ o, ops[j]? = some o := ⟨ops[j], Array.getElem?_eq_some_iff.2 ⟨hj, rfl⟩⟩
          have : j ∈ Region.ready .any ops listed := by
            refine mem_ready.2 ⟨by simpa [Array.getD, hj2] using hlj, o, ho, fun e hem hb => ?_⟩
            have hmem : e.on ∈ direct o := List.mem_map.2 ⟨e, List.mem_filter.2 ⟨by simpa using hem, hb⟩, rfl⟩
            have hlt := backB_get hback (j := j) (o := o) (by simpa using ho) _ hmem
            exact ihj e.on (by omega) (by omega)
          rw [hr] at this; simp at this
    · obtain ⟨h1, o, ho, hpre⟩ := mem_ready.1 hi
      have hlt : i < ops.size := (Array.getElem?_eq_some_iff.1 ho).1
      have hi2 : i < listed.size := by omega
      have hLi : listed.getD i false = false := by simpa [Array.getD, hi2] using h1
      have ho' : ops.toList[i]? = some o := by simpa using ho
      have hie : i < evs.length := by rw [← hlen]; simpa using hlt
      obtain ⟨e, hei⟩ : ∃ e, evs[i]? = some e := ⟨evs[i], by simp [hie]⟩
      have hpre' : ∀ d ∈ direct o, listed.getD d false = true := by
        intro d hdm
        obtain ⟨ed, hed, rfl⟩ := List.mem_map.1 hdm
        obtain ⟨hem, hb⟩ := List.mem_filter.1 hed
        exact hpre ed (by simpa using hem) hb
      have hset : ∀ j, (listed.setIfInBounds i true).getD j false = (listed.getD j false || j == i) := by
        intro j
        by_cases hj : i = j
        · subst hj; simp [hi2]
        · rw [getD_set_ne false hj]
          have : (j == i) = false := by simpa using fun h => hj h.symm
          rw [this, Bool.or_false]
      have hcl' : ∀ j o', ops.toList[j]? = some o' → (listed.setIfInBounds i true).getD j false = true → ∀ d ∈ direct o', (listed.setIfInBounds i true).getD d false = true := by
        intro j o' ho2 hj d hdm
        rw [hset] at hj ⊢
        by_cases hji : j = i
        · subst hji
          rw [ho'] at ho2; cases ho2
          simp [hpre' d hdm]
        · have : listed.getD j false = true := by simpa [hji] using hj
          simp [hcl j o' ho2 this d hdm]
      have hL : ∀ j b, evs[j]? = some b → j ≠ i → (j < i → clash b e = true) → (i < j → clash e b = true) → listed.getD j false = decide (j < i) := by
        intro j b hb hne c1 c2
        rcases Nat.lt_or_gt_of_ne hne with h | h
        · have hbit := indep_get hind hei h hb (c1 h)
          have := ancT_closed (S := fun j => (listed.setIfInBounds i true).getD j false) ops.toList [] (fun j o' h1 h2 => hcl' j o' h1 (by simpa using h2)) (by simp) i j (by simp only [hset]; simp) hbit
          simp only [hset] at this
          simp only [h, decide_true]
          simpa [hne] using this
        · have hbit := indep_get hind hb h hei (c2 h)
          have hn : ¬ j < i := by omega
          simp only [hn, decide_false]
          cases hlj : listed.getD j false with
          | false => rfl
          | true =>
            have := ancT_closed (S := fun j => listed.getD j false) ops.toList [] (fun j o' h1 h2 => hcl j o' h1 (by simpa using h2)) (by simp) j i hlj hbit
            rw [hLi] at this; cases this
      have hok := hev.get ho' hei
      rw [Nat.zero_add] at hok
      obtain ⟨hdst, hok⟩ := hok
      have rdE : ∀ t ∈ e.sl, env.get t = Env.get (runs ((evs.map EvD.wE).take i) env0) t := by
        intro t ht
        simp only [Env.get]
        rw [he, ← Nat.sub_zero i, ← appS_lt]
        congr 1
        refine appS_agree _ 0 _ _ rfl fun j w' hj hk => ?_
        simp only [Nat.zero_add]
        rw [List.getElem?_map] at hj
        obtain ⟨b, hb, rfl⟩ := Option.map_eq_some_iff.1 hj
        have hbd := keyed_wE hk
        by_cases hji : j = i
        · subst hji; simp only [hLi]; simp
        · refine hL j b hb hji (fun _ => ?_) (fun _ => ?_)
          · simp [clash, hbd, ht]
          · simp [clash, hbd, ht]
      have rdH : ∀ n ∈ e.nr, aget H n = aget (runs ((evs.map EvD.d).take i) H0) n := by
        intro n hn
        rw [hh, ← Nat.sub_zero i, ← appS_lt]
        refine appS_agree _ 0 _ _ rfl fun j w' hj hk => ?_
        simp only [Nat.zero_add]
        rw [List.getElem?_map] at hj
        obtain ⟨b, hb, rfl⟩ := Option.map_eq_some_iff.1 hj
        obtain ⟨p, hp1, hp2⟩ := List.any_eq_true.1 hk
        have hp2 : p.1 = n := by simpa using hp2
        by_cases hji : j = i
        · subst hji; simp only [hLi]; simp
        · refine hL j b hb hji (fun _ => ?_) (fun _ => ?_)
          · have : b.d.any (fun p => e.nr.contains p.1 || keyed p.1 e.d) = true := List.any_eq_true.2 ⟨p, hp1, by simp [hp2, hn]⟩
            unfold clash; rw [this]; simp
          · have : b.d.any (fun p => e.nr.contains p.1) = true := List.any_eq_true.2 ⟨p, hp1, by simp [hp2, hn]⟩
            unfold clash; rw [this]; simp
      have stE : ∀ (env' : Env), (∀ t, aget env' t = aget (setsH env e.wE) t) → ∀ t, aget env' t = aget (appS (fun j => (listed.setIfInBounds i true).getD j false) 0 (evs.map EvD.wE) env0) t := by
        intro env' h t
        have : (fun j => (listed.setIfInBounds i true).getD j false) = fun j => (listed.getD j false || j == i) := funext hset
        rw [this, appS_step (i := i) (w := e.wE) (by simp [hei]) hLi ?_ t, h]
        · exact aget_setsH_congr (he t)
        · intro k hk j w' hj hk' hji
          rw [List.getElem?_map] at hj
          obtain ⟨b, hb, rfl⟩ := Option.map_eq_some_iff.1 hj
          have hbd := keyed_wE hk'
          have hed := keyed_wE hk
          refine hL j b hb hji (fun _ => ?_) (fun _ => ?_)
          · simp [clash, hbd, hed]
          · simp [clash, hbd, hed]
      have stH : ∀ (H' : Heap), (∀ n, aget H' n = aget (setsH H e.d) n) → ∀ n, aget H' n = aget (appS (fun j => (listed.setIfInBounds i true).getD j false) 0 (evs.map EvD.d) H0) n := by
        intro H' h t
        have : (fun j => (listed.setIfInBounds i true).getD j false) = fun j => (listed.getD j false || j == i) := funext hset
        rw [this, appS_step (i := i) (w := e.d) (by simp [hei]) hLi ?_ t, h]
        · exact aget_setsH_congr (hh t)
        · intro k hk j w' hj hk' hji
          rw [List.getElem?_map] at hj
          obtain ⟨b, hb, rfl⟩ := Option.map_eq_some_iff.1 hj
          obtain ⟨p, hp1, hp2⟩ := List.any_eq_true.1 hk
          obtain ⟨q, hq1, hq2⟩ := List.any_eq_true.1 hk'
          have hp2 : p.1 = k := by simpa using hp2
          have hq2 : q.1 = k := by simpa using hq2
          refine hL j b hb hji (fun _ => ?_) (fun _ => ?_)
          · have : b.d.any (fun p => e.nr.contains p.1 || keyed p.1 e.d) = true := List.any_eq_true.2 ⟨q, hq1, by rw [hq2, hk]; simp⟩
            unfold clash; rw [this]; simp
          · have : e.d.any (fun p => b.nr.contains p.1 || keyed p.1 b.d) = true := List.any_eq_true.2 ⟨p, hp1, by rw [hp2, hk']; simp⟩
            unfold clash; rw [this]; simp
      have hsz' : (listed.setIfInBounds i true).size = ops.size := by simpa using hsz
      have hcount' : (listed.setIfInBounds i true).toList.count false = fuel := by
        have hi3 : i < listed.toList.length := by simpa using hi2
        have hg : listed.toList[i] = false := by
          have := hLi
          simp [Array.getD, hi2] at this
          simpa using this
        rw [Array.toList_setIfInBounds, List.count_set hi3, hg, hcount]
        simp
      have hmem : o ∈ ops.toList := List.mem_of_getElem? ho'
      have hszt : ∀ t, o.dst = some t → t < a.tmps.size := by rw [st.size]; exact dstOk_mem hd o hmem
      have putE : ∀ (v : AV), v = e.v → ∀ t, aget (S.put env o.dst v) t = aget (setsH env e.wE) t := by
        rintro v rfl t
        rw [hdst]
        unfold EvD.wE S.put
        cases e.dst <;> rfl
      unfold wpOp
      rw [ho]
      simp only
      obtain ⟨g, hg, hgt, hgf⟩ := hok env H rdE rdH
      have hw := gA_ok st.env (fun o ho => by rw [st.size]; exact dstOk_mem hd o ho) hg
      rw [hw]
      cases g with
      | true =>
        refine Or.inl ?_
        have hstp := hgt rfl (fun v H' => v = e.v ∧ ∀ n, aget H' n = aget (setsH H e.d) n) (fun H' h => ⟨rfl, h⟩)
        refine stp_sound hc st.env st.inv hstp ?_
        rintro ν' v c H' w' k1 k2 k3 ⟨k4, k5⟩
        refine ih _ ν' (S.put env o.dst v) H' _ w' hsz' hcount' hcl' (stE _ (putE v k4)) (stH _ k5) ⟨?_, ?_, (st.env.keeps k1).put hszt k2, k3⟩
        · cases ho : o.dst <;> exact st.defers
        · cases ho : o.dst <;> simp [Act.put, st.size]
      | false =>
        obtain ⟨e1, e2⟩ := hgf rfl
        refine ih _ ν (S.put env o.dst (.tup [])) H _ w hsz' hcount' hcl' (stE _ (putE _ e1.symm)) (stH _ (by rw [e2]; exact fun _ => rfl)) ⟨?_, ?_, st.env.put hszt (v := .tup []) (c := undef) ⟨#[], rfl, .nil⟩, st.inv⟩
        · cases ho : o.dst <;> exact st.defers
        · cases ho : o.dst <;> simp [Act.put, st.size]
end
end Go.Proofs.Ytbcnkfkmonpdeaa.S
