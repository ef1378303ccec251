/- The symbolic heap: regions in their text's order, and code, told by a stack of what is left to do. Own work of this claim. -/
import Derived.Test.YtbcnkfkmonpdeaaSi
namespace Go.Proofs.Ytbcnkfkmonpdeaa.S
set_option linter.all false
open Go

theorem EnvRel.put {ν : Nm} {env : Env} {a : Act} (h : EnvRel ν env a.tmps) {d : Option Tmp} (hd : ∀ t, d = some t → t < a.tmps.size) {v : AV} {c : Value} (hv : VR ν v c) : EnvRel ν (S.put env d v) (a.put d c).tmps := by
  cases d with
  | none => exact h
  | some t =>
    have ht := hd t rfl
    intro s
    simp only [S.put, Env.get, aget_aset, Act.put]
    by_cases e : t = s
    · subst e
      simp [Array.getD, ht]
      exact hv
    · rw [if_neg e]
      have := h s
      simp only [Env.get] at this
      simpa [Array.getD_eq_getD_getElem?, Array.getElem?_setIfInBounds, e] using this

theorem aget_putc (env : Env) (d : Option Tmp) (v : AV) (t : Nat) : aget (putc env d v) t = aget (put env d v) t := by
  cases d with
  | none => rfl
  | some d => simp only [putc, put, aget_aset, aget]
theorem EnvRel.putc {ν : Nm} {env : Env} {a : Act} (h : EnvRel ν env a.tmps) {d : Option Tmp} (hd : ∀ t, d = some t → t < a.tmps.size) {v : AV} {c : Value} (hv : VR ν v c) : EnvRel ν (S.putc env d v) (a.put d c).tmps := by
  intro t
  have := h.put hd hv t
  unfold Env.get at this ⊢
  rw [aget_putc]; exact this

theorem gA_ok {ν : Nm} {env : Env} {a : Act} {ops : Array Oper} (h : EnvRel ν env a.tmps) (hd : ∀ o ∈ ops.toList, ∀ t, o.dst = some t → t < a.tmps.size) {o : Oper} {g : Bool} (hg : gA ops.toList env o = some g) :
    Region.wanted o (yielded ops a.tmps) = g := by
  unfold gA at hg
  unfold Region.wanted
  split at hg
  · rename_i hgu; rw [hgu]; simpa using hg
  · rename_i j want hgu
    rw [hgu]
    simp only
    split at hg
    · rename_i d hj
      have hlt : d < a.tmps.size := by
        cases ho : ops.toList[j]? with
        | none => rw [ho] at hj; cases hj
        | some oj => rw [ho] at hj; exact hd oj (List.mem_of_getElem? ho) d hj
      have hv := h d
      have hj' : (ops[j]?).bind (·.dst) = some d := by simpa using hj
      have hget : a.tmps[d]? = some (a.tmps.getD d undef) := by simp [Array.getD, hlt]
      split at hg
      · rename_i b hb
        rw [hb] at hv
        have hv : a.tmps.getD d undef = .bool b := hv
        unfold yielded
        rw [hj', Option.bind_some, hget, hv]
        simpa using hg
      · rename_i hb
        rw [hb] at hv
        obtain ⟨arr, hv, _⟩ := hv
        unfold yielded
        rw [hj', Option.bind_some, hget, hv]
        simpa using hg
      · cases hg
    · cases hg

section
variable {P : Program} {G : Nat → Prop} {hp : HP} {nt : Nat}

def dstOk (nt : Nat) (ops : Array Oper) : Bool := ops.toList.all fun o => match o.dst with | some d => d < nt | none => true
theorem dstOk_mem {ops : Array Oper} (h : dstOk nt ops = true) : ∀ o ∈ ops.toList, ∀ t, o.dst = some t → t < nt := by
  intro o ho t ht
  have := List.all_eq_true.1 h o ho
  rw [ht] at this
  simpa using this

theorem reg_sound {call : CallT} (hc : CallOk P call) {ops : Array Oper} (hd : dstOk nt ops = true) {id : Nat} {K : Env → Heap → Prop} {Q : Exit → Act → World → Prop}
    (hQ : ∀ ν env H a w, St G hp nt ν env H a w → K env H → Q .normal a w) :
    ∀ (os : List Oper) (i : Nat) (ν : Nm) (env : Env) (H : Heap) (a : Act) (w : World), ops.toList.drop i = os → St G hp nt ν env H a w → reg P call ops.toList id i os env H K → wpOps P ops Q (List.range' i os.length) a w
  | [], i, ν, env, H, a, w, _, st, h => hQ _ _ _ _ _ st h
  | o :: os, i, ν, env, H, a, w, hos, st, h => by
    have hi : ops[i]? = some o := by
      have := congrArg List.head? hos
      simpa [List.head?_drop] using this
    have hmem : o ∈ ops.toList := List.mem_of_getElem? (i := i) (by simpa using hi)
    have hos' : ops.toList.drop (i + 1) = os := by
      rw [← List.tail_drop, hos]; rfl
    have hsz : ∀ o ∈ ops.toList, ∀ t, o.dst = some t → t < a.tmps.size := by rw [st.size]; exact dstOk_mem hd
    simp only [reg] at h
    replace h : ∃ g, gA ops.toList env o = some g ∧ (g = true → stp P call (nmOf id i) o env H fun v H' => reg P call ops.toList id (i + 1) os (S.putc env o.dst v) H' K) ∧
          (g = false → reg P call ops.toList id (i + 1) os (S.putc env o.dst (.tup [])) H K) := by
      split at h
      · rename_i hg
        exact ⟨true, by simp [gA, hg], fun _ => h, by simp⟩
      · split at h
        · rename_i g hg
          exact ⟨g, hg, h⟩
        · exact h.elim
    obtain ⟨g, hg, h⟩ := h
    · skip
      have hw := gA_ok st.env hsz hg
      simp only [List.length_cons, List.range'_succ, wpOps, hi]
      rw [hw]
      cases g with
      | true =>
        refine Or.inl ?_
        refine stp_sound hc st.env st.inv (h.1 rfl) ?_
        intro ν' v c H' w' k1 k2 k3 k4
        refine reg_sound hc hd hQ os (i + 1) ν' _ H' _ w' hos' ⟨?_, ?_, (st.env.keeps k1).putc (hsz o hmem) k2, k3⟩ k4
        · cases ho : o.dst <;> exact st.defers
        · cases ho : o.dst <;> simp [Act.put, st.size]
      | false =>
        refine reg_sound hc hd hQ os (i + 1) ν _ H _ w hos' ⟨?_, ?_, st.env.putc (hsz o hmem) (v := .tup []) (c := undef) ⟨#[], rfl, .nil⟩, st.inv⟩ (h.2 rfl)
        · cases ho : o.dst <;> exact st.defers
        · cases ho : o.dst <;> simp [Act.put, st.size]

/-! Code -/
inductive It where
  | code (c : Code)
  | blk (id : Nat)
  | back (J : Env → Heap → Prop)
def codeOk (nt : Nat) : Code → Bool
  | .region _ ops _ => dstOk nt ops
  | .seq a b => codeOk nt a && codeOk nt b
  | .cond _ a b => codeOk nt a && codeOk nt b
  | .block _ a => codeOk nt a
  | .loop a => codeOk nt a
  | .skip | .exit _ | .ret => true
  | _ => false
def itOk (nt : Nat) : It → Prop
  | .code c => codeOk nt c = true
  | _ => True
def conc (G : Nat → Prop) (hp : HP) (nt : Nat) (J : Env → Heap → Prop) (a : Act) (w : World) : Prop := ∃ ν env H, J env H ∧ St G hp nt ν env H a w
def semS (P : Program) (G : Nat → Prop) (hp : HP) (nt : Nat) (R : Env → Heap → Prop) : List It → Exit → Act → World → Prop
  | [] => fun e a w => (e = .normal ∨ e = .ret) ∧ conc G hp nt R a w
  | .code c :: ks => Exit.then (fun a w => c.wp P (semS P G hp nt R ks) a w) (semS P G hp nt R ks)
  | .blk id :: ks => Exit.inBlock id (semS P G hp nt R ks)
  | .back J :: ks => Exit.then (conc G hp nt J) (semS P G hp nt R ks)
/-- From this state on, what is left to do comes to R. -/
def W (P : Program) (nt : Nat) (ks : List It) (env : Env) (H : Heap) (R : Env → Heap → Prop) : Prop :=
  (∀ k ∈ ks, itOk nt k) → ∀ G (hp : HP), (∀ n, hp.B n → n < 100) → ∀ ν a w, St G hp nt ν env H a w → semS P G hp nt R ks .normal a w

variable {ks : List It} {env : Env} {H : Heap} {R : Env → Heap → Prop}

theorem W_seq {x y : Code} (h : W P nt (.code x :: .code y :: ks) env H R) : W P nt (.code (.seq x y) :: ks) env H R := by
  intro hk G hp hB ν a w st
  have h0 : codeOk nt (.seq x y) = true := hk (.code (.seq x y)) (by simp)
  simp only [codeOk, Bool.and_eq_true] at h0
  have := h (by
    intro k hk'
    simp only [List.mem_cons] at hk'
    rcases hk' with rfl | rfl | hk'
    · exact h0.1
    · exact h0.2
    · exact hk _ (by simp [hk'])) G hp hB ν a w st
  exact wp_seq this
theorem W_skip (h : W P nt ks env H R) : W P nt (.code .skip :: ks) env H R := fun hk G hp hB ν a w st => wp_skip (h (fun k hk' => hk k (by simp [hk'])) G hp hB ν a w st)
theorem W_block {id : Nat} {c : Code} (h : W P nt (.code c :: .blk id :: ks) env H R) : W P nt (.code (.block id c) :: ks) env H R := by
  intro hk G hp hB ν a w st
  have h0 : codeOk nt (.block id c) = true := hk (.code (.block id c)) (by simp)
  refine wp_block (wp_mono (h ?_ G hp hB ν a w st) ?_)
  · intro k hk'
    simp only [List.mem_cons] at hk'
    rcases hk' with rfl | rfl | hk'
    · exact h0
    · trivial
    · exact hk _ (by simp [hk'])
  · intro e a w he; exact he
theorem W_pop {id : Nat} (h : W P nt ks env H R) : W P nt (.blk id :: ks) env H R := fun hk G hp hB ν a w st => h (fun k hk' => hk k (by simp [hk'])) G hp hB ν a w st
theorem W_back {J : Env → Heap → Prop} (h : J env H) : W P nt (.back J :: ks) env H R := fun _ _ _ _ ν _ _ st => ⟨ν, env, H, h, st⟩
theorem W_cond {c : Operand} {x y : Code} {b : Bool} (hb : ev env c = .bool b) (h1 : b = true → W P nt (.code x :: ks) env H R) (h2 : b = false → W P nt (.code y :: ks) env H R) :
    W P nt (.code (.cond c x y) :: ks) env H R := by
  intro hk G hp hB ν a w st
  have h0 : codeOk nt (.cond c x y) = true := hk (.code (.cond c x y)) (by simp)
  simp only [codeOk, Bool.and_eq_true] at h0
  have hc := ev_ok st.env c
  rw [hb] at hc
  have hc : a.eval c = .bool b := hc
  have hks : ∀ k ∈ ks, itOk nt k := fun k hk' => hk k (by simp [hk'])
  refine wp_cond_split hc (fun e => ?_) (fun e => ?_)
  · exact h1 e (by intro k hk'; simp only [List.mem_cons] at hk'; rcases hk' with rfl | hk'; exact h0.1; exact hks k hk') G hp hB ν a w st
  · exact h2 e (by intro k hk'; simp only [List.mem_cons] at hk'; rcases hk' with rfl | hk'; exact h0.2; exact hks k hk') G hp hB ν a w st
/-- Where an exit leads. -/
def popTo (id : Nat) : List It → Option (List It)
  | [] => none
  | .blk id' :: ks => if id = id' then some ks else popTo id ks
  | _ :: ks => popTo id ks
theorem popTo_sem {id : Nat} {ks' : List It} {a : Act} {w : World} : ∀ (ks : List It), popTo id ks = some ks' → semS P G hp nt R ks' .normal a w → semS P G hp nt R ks (.exit id) a w
  | [], h, _ => by simp [popTo] at h
  | .blk id' :: ks, h, hs => by
    simp only [popTo] at h
    simp only [semS, Exit.inBlock]
    split at h
    · rename_i e; cases h; rw [if_pos e]; exact hs
    · rename_i e; rw [if_neg e]; exact popTo_sem ks h hs
  | .code c :: ks, h, hs => by simp only [semS, Exit.then]; exact popTo_sem ks h hs
  | .back J :: ks, h, hs => by simp only [semS, Exit.then]; exact popTo_sem ks h hs
theorem popTo_ok {id : Nat} {ks' : List It} : ∀ (ks : List It), popTo id ks = some ks' → (∀ k ∈ ks, itOk nt k) → ∀ k ∈ ks', itOk nt k
  | [], h, _ => by simp [popTo] at h
  | .blk id' :: ks, h, hk => by
    simp only [popTo] at h
    split at h
    · cases h; exact fun k hk' => hk k (by simp [hk'])
    · exact popTo_ok ks h fun k hk' => hk k (by simp [hk'])
  | .code c :: ks, h, hk => popTo_ok ks h fun k hk' => hk k (by simp [hk'])
  | .back J :: ks, h, hk => popTo_ok ks h fun k hk' => hk k (by simp [hk'])
theorem W_exit {id : Nat} {ks' : List It} (hp' : popTo id ks = some ks') (h : W P nt ks' env H R) : W P nt (.code (.exit id) :: ks) env H R := by
  intro hk G hp hB ν a w st
  have hks : ∀ k ∈ ks, itOk nt k := fun k hk' => hk k (by simp [hk'])
  exact wp_exit (popTo_sem ks hp' (h (popTo_ok ks hp' hks) G hp hB ν a w st))
theorem ret_sem {a : Act} {w : World} : ∀ (ks : List It), conc G hp nt R a w → semS P G hp nt R ks .ret a w
  | [], h => ⟨.inr rfl, h⟩
  | .blk _ :: ks, h => ret_sem ks h
  | .code _ :: ks, h => ret_sem ks h
  | .back _ :: ks, h => ret_sem ks h
theorem W_ret (h : R env H) : W P nt (.code .ret :: ks) env H R := fun _ _ _ _ ν _ _ st => wp_ret (ret_sem ks ⟨ν, env, H, h, st⟩)
theorem W_end (h : R env H) : W P nt [] env H R := fun _ _ _ _ ν _ _ st => ⟨.inl rfl, ν, env, H, h, st⟩

theorem wp_loop_ghost {σ : Type} {c : Code} {Q : Exit → Act → World → Prop} {a : Act} {w : World} (I : σ → Act → World → Prop) (μ : σ → Nat) (s : σ) (h₀ : I s a w)
    (round : ∀ s a w, I s a w → c.wp P (Exit.then (fun a' w' => ∃ s', I s' a' w' ∧ μ s' < μ s) Q) a w) : (Code.loop c).wp P Q a w := by
  intro b k cs
  have key : ∀ n s a w, μ s = n → I s a w →
      ∃ e a' w', Q e a' w' ∧ Arrives P (lone (b.at a (.code c :: .inLoop c :: k)) cs w) b k cs e a' w' := by
    intro n
    induction n using Nat.strongRecOn with
    | _ n ih =>
      intro s a w hn hI
      obtain ⟨e, a₁, w₁, hq, harr⟩ := round s a w hI b (.inLoop c :: k) cs
      cases e with
      | normal =>
        obtain ⟨s', hI₁, hlt⟩ := hq
        obtain ⟨e₂, a₂, w₂, hq₂, harr₂⟩ := ih (μ s') (hn ▸ hlt) s' a₁ w₁ rfl hI₁
        exact ⟨e₂, a₂, w₂, hq₂, .of_steps (Steps.trans harr (.one step_inLoop)) harr₂⟩
      | exit id => exact ⟨_, a₁, w₁, hq, .pass (x := .inLoop c) rfl (fun _ _ => .inl (by simp)) harr⟩
      | goto l => exact ⟨_, a₁, w₁, hq, .pass (x := .inLoop c) rfl (fun _ _ => .inl (by simp)) harr⟩
      | ret => exact ⟨_, a₁, w₁, hq, .pass (x := .inLoop c) rfl (fun _ _ => .inl (by simp)) harr⟩
      | panic ch => exact ⟨_, a₁, w₁, hq, .pass (x := .inLoop c) rfl (fun _ _ => .inl (by simp)) harr⟩
      | outgrown => exact ⟨_, a₁, w₁, hq, .pass (x := .inLoop c) rfl (fun _ _ => .inl (by simp)) harr⟩
  obtain ⟨e, a', w', hq, harr⟩ := key _ s a w rfl h₀
  exact ⟨e, a', w', hq, .of_steps (.one step_loop) harr⟩

theorem W_reg {call : CallT} (hc : CallOk P call) {id : Nat} {ops : Array Oper} (h : ∀ K : Env → Heap → Prop, (∀ env H, W P nt ks env H R → K env H) → reg P call ops.toList id 0 ops.toList env H K) :
    W P nt (.code (.region id ops false) :: ks) env H R := by
  intro hk G hp hB ν a w st
  have hd : dstOk nt ops = true := hk (.code (.region id ops false)) (by simp)
  have hks : ∀ k ∈ ks, itOk nt k := fun k hk' => hk k (by simp [hk'])
  have := reg_sound hc hd (id := id) (K := fun env H => W P nt ks env H R) (Q := semS P G hp nt R ks) (fun ν env H a w st hW => hW hks G hp hB ν a w st) ops.toList 0 ν env H a w (by simp) st (h _ fun _ _ h => h)
  refine wp_region ?_
  rw [List.range_eq_range']
  simpa using this

theorem W_loop {c : Code} (I : Env → Heap → Prop) (μ : Env → Heap → Nat) (h0 : I env H)
    (h : ∀ env H, I env H → W P nt (.code c :: .back (fun env' H' => I env' H' ∧ μ env' H' < μ env H) :: ks) env H R) : W P nt (.code (.loop c) :: ks) env H R := by
  intro hk G hp hB ν a w st
  have hc : codeOk nt c = true := hk (.code (.loop c)) (by simp)
  have hks : ∀ k ∈ ks, itOk nt k := fun k hk' => hk k (by simp [hk'])
  refine wp_loop_ghost (σ := Nm × Env × Heap) (fun s a w => I s.2.1 s.2.2 ∧ St G hp nt s.1 s.2.1 s.2.2 a w) (fun s => μ s.2.1 s.2.2) (ν, env, H) ⟨h0, st⟩ ?_
  rintro ⟨ν, env, H⟩ a w ⟨hI, st⟩
  refine wp_mono (h env H hI ?_ G hp hB ν a w st) ?_
  · intro k hk'
    simp only [List.mem_cons] at hk'
    rcases hk' with rfl | rfl | hk'
    · exact hc
    · trivial
    · exact hks k hk'
  · intro e a w he
    cases e <;> first | exact he | skip
    obtain ⟨ν', env', H', ⟨h1, h2⟩, st'⟩ := he
    exact ⟨(ν', env', H'), ⟨h1, st'⟩, h2⟩

end
end Go.Proofs.Ytbcnkfkmonpdeaa.S
