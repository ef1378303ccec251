/- The symbolic heap: the step of an operation and of a region in its text's order is sound. Own work of this claim. -/
import Derived.Test.YtbcnkfkmonpdeaaSh
import Derived.Laws.BytesString
import Derived.IntWalk
namespace Go.Proofs.Ytbcnkfkmonpdeaa.S
set_option linter.all false
open Go
theorem CR.va' {ν : Nm} {c : AV} {v : Value} (h : CR ν c v) : VA ν c v := by
  cases c <;> first | exact h | (simp [CR] at h)

section
variable {P : Program} {G : Nat → Prop} {hp : HP} {ν : Nm} {H : Heap} {w : World}

theorem build_ok {t : TypeId} {parts : List (Nat × AV)} {vparts : Array (Nat × Value)} {cs : List AV} (hF : F2 (fun p q => p.1 = q.1 ∧ VR ν p.2 q.2) parts vparts.toList)
    (h : sBuild (tyI P t) parts = some cs) (hpos : 0 < (tyI P t).sz) (hz : (tyI P t).zero.length = (tyI P t).sz) : ∃ c, (Instr.build t vparts).run P w = .ok c w ∧ VR ν (.agg cs) c := by
  obtain ⟨i, z, q1, q2, q3, q4, q5, q6⟩ := zero_ok hpos hz ν
  unfold sBuild at h
  split at h
  case h_2 => cases h
  case h_1 fs ht =>
  obtain ⟨fields, hu, hplaces⟩ := tyI_struct ht
  obtain ⟨arr, f1, f2⟩ := fill_ok (ν := ν) _ parts vparts.toList _ z.cells _ hF q6 h
  refine ⟨.agg arr, run_build w t vparts arr ?_, arr, rfl, f2⟩
  unfold Program.built
  simp only [q1, hu, q2, hplaces]
  have : (fun i : Nat => fs.toArray[i]?) = (fun i : Nat => fs[i]?) := by funext i; simp
  rw [this]; exact f1

theorem fields_get {fields : Array Field} {fs : List (Nat × Nat)} (h : fields.toList.mapM (fun f => (P.info? f.type).map fun i => (f.offset, i.size)) = some fs) {f o sz : Nat} (hf : fs[f]? = some (o, sz)) :
    ∃ fld : Field, fields[f]? = some fld ∧ fld.offset = o ∧ ∃ j, P.info? fld.type = some j ∧ j.size = sz := by
  have hh : ∀ (l : List Field) (fs : List (Nat × Nat)) (f : Nat), l.mapM (fun f => (P.info? f.type).map fun i => (f.offset, i.size)) = some fs → fs[f]? = some (o, sz) → ∃ fld : Field, l[f]? = some fld ∧ fld.offset = o ∧ ∃ j, P.info? fld.type = some j ∧ j.size = sz := by
    intro l
    induction l with
    | nil => intro fs f h hf; simp at h; subst h; simp at hf
    | cons a l ih =>
      intro fs f h hf
      simp only [List.mapM_cons, Option.bind_eq_bind, Option.pure_def] at h
      cases hi : P.info? a.type with
      | none => simp [hi] at h
      | some j =>
        cases hr : l.mapM (fun f => (P.info? f.type).map fun i => (f.offset, i.size)) with
        | none => simp [hi, hr] at h
        | some rest =>
          simp [hi, hr] at h
          subst h
          cases f with
          | zero => simp at hf; exact ⟨a, rfl, hf.1, j, hi, hf.2⟩
          | succ f => simpa using ih rest f hr (by simpa using hf)
  obtain ⟨fld, h1, h2⟩ := hh fields.toList fs f h hf
  exact ⟨fld, by simpa using h1, h2⟩

theorem caps_ok {env : Env} {a : Act} (he : EnvRel ν env a.tmps) : ∀ (caps : List Operand) (ps : List (Nat × Nat)), caps.mapM (fun x => match ev env x with | .ptr n o => some (n, o) | _ => none) = some ps → F2 (PR ν) ps (caps.map a.eval)
  | [], ps, h => by simp at h; subst h; exact .nil
  | x :: caps, ps, h => by
    simp only [List.mapM_cons, Option.bind_eq_bind, Option.pure_def] at h
    cases hx : (match ev env x with | .ptr n o => some (n, o) | _ => none : Option (Nat × Nat)) with
    | none => simp [hx] at h
    | some p =>
      cases hr : caps.mapM (fun x => match ev env x with | .ptr n o => some (n, o) | _ => none) with
      | none => simp [hx, hr] at h
      | some rest =>
        simp [hx, hr] at h
        subst h
        refine .cons ?_ (caps_ok he caps rest hr)
        have hv := ev_ok he x
        split at hx
        · rename_i n o hxe
          cases hx
          rw [hxe] at hv; exact hv
        · cases hx

theorem push_all : ∀ (l : List UInt8) (acc : ByteArray), (l.map fun b => (b.toNat : Int)).foldl (fun r n => r.push (UInt8.ofNat n.toNat)) acc = acc ++ ⟨l.toArray⟩
  | [], acc => by simp; apply ByteArray.ext; simp
  | b :: l, acc => by
    simp only [List.map_cons, List.foldl_cons]
    rw [push_all l]
    apply ByteArray.ext
    simp [ByteArray.data_append]
theorem run_bytes {src dst e : TypeId} {x : AV} {c : Value} {l : List UInt8} (h1 : (tyI P src).tk = .slice e) (h2 : (tyI P dst).tk = .str) (he : P.underlying e = some (.int .u8)) (hi : Inv G hp ν H w) (hx : VR ν x c) (h : srcOf H 1 x = some (.bys l)) :
    (convert src dst c).run P w = .ok (.string ⟨l.toArray⟩) w := by
  unfold srcOf at h
  split at h
  · simp at h
  · rename_i n o len
    split at h
    · rename_i own lv hH
      split at h
      · rename_i hc
        have hv : lv.view o (len * 1) = .bys l := by simpa using h
        have hL := congrArg LV.toL hv
        rw [LV.view_eq] at hL
        rcases hx with ⟨L, cp, q1, q2, q3, rfl⟩ | ⟨rfl, p, rfl⟩
        · obtain ⟨vs, v1, v2, v3⟩ := (hi.er n _ hH).cells q1 o (len * 1) hc.1
          rw [hL] at v1
          have hvs : vs = (l.map fun b => (b.toNat : Int)).map (Value.int .u8) := by
            have hh : ∀ (l : List UInt8) (vs : List Value), F2 (CR ν) (l.map fun b => AV.int .u8 b.toNat) vs → vs = (l.map fun b => (b.toNat : Int)).map (Value.int .u8) := by
              intro l
              induction l with
              | nil => intro vs h; cases h; rfl
              | cons b l ih =>
                intro vs h
                cases h with
                | cons hb ht =>
                  have hb : _ = _ := hb
                  rw [hb, ih _ ht]; rfl
            exact hh l vs v1
          have hl := run_loadCells_list (P := P) w ⟨L.blk, L.off + o, none⟩ vs v3
          rw [v2, Nat.mul_one, hvs] at hl
          have := run_bytesToString (P := P) w ⟨L.blk, L.off + o, none⟩ len cp _ hl
          rw [push_all] at this
          simp [convert, run_underlying (tyI_slice h1), run_underlying (tyI_str h2), run_underlying he, this]
        · have hl0 : l = [] := by
            simp at hL
            simpa [LV.toL] using hL.symm
          subst hl0
          cases p with
          | none => simp [convert, run_underlying (tyI_slice h1), run_underlying (tyI_str h2), run_underlying he, Conv.bytesToString]; rfl
          | some p =>
            have := run_bytesToString (P := P) w p 0 0 [] (by simp [loadCells, loadCellsFrom])
            simp [convert, run_underlying (tyI_slice h1), run_underlying (tyI_str h2), run_underlying he, this]; rfl
      · cases h
    · cases h
  · cases h

theorem args0 {env : Env} {a : Act} (he : EnvRel ν env a.tmps) {xs : Array Operand} {i : Nat} {v : AV} (h : (xs[i]?).map (ev env) = some v) : ∃ c, (xs.map a.eval)[i]? = some c ∧ VR ν v c := by
  cases hx : xs[i]? with
  | none => rw [hx] at h; cases h
  | some x => rw [hx] at h; cases h; exact ⟨a.eval x, by simp [hx], ev_ok he x⟩
theorem call_sound {call : CallT} (hc : CallOk P call) {nm : Nat} {o : Oper} {c : Call} {env : Env} {K : Kt} {a : Act} {next : Act → World → Prop} {Q : Exit → Act → World → Prop}
    (he : EnvRel ν env a.tmps) (hi : Inv G hp ν H w) (ho : o.op = .call c) (h : sCall P call nm H c env K) (hn : Nexts G hp ν o a K next) : o.wp P a w next Q := by
  have hb : ∀ (b : Builtin), c.callee = .builtin b → execOp a.eval o = builtin b c.argTypes o.type (c.args.map fun | .const _ => true | _ => false) (c.args.map a.eval) := by
    intro b hb
    simp [execOp, ho, resolve, hb, invoke]
    rfl
  unfold sCall at h
  split at h
  case h_1 hcal =>
    have hx := hb _ hcal
    split at h
    · rename_i e n off len ht hv
      obtain ⟨v, g1, g2⟩ := args0 he hv
      cases htt : c.argTypes[0]? with
      | none => rw [htt] at ht; cases ht
      | some t =>
        rw [htt] at ht
        have hu := tyI_slice (Option.some.inj ht)
        refine wp_pures hn hi (s := Builtin.len_ c.argTypes o.type (c.args.map a.eval)) (by rw [hx]; rfl) (.int h ?_)
        rcases g2 with ⟨L, cp, q1, q2, q3, rfl⟩ | ⟨rfl, p, rfl⟩ <;> simp [Builtin.len_, htt, g1, run_underlying hu, goInt]
    · rename_i e ht hv
      obtain ⟨v, g1, g2⟩ := args0 he hv
      cases htt : c.argTypes[0]? with
      | none => rw [htt] at ht; cases ht
      | some t =>
        rw [htt] at ht
        have hu := tyI_slice (Option.some.inj ht)
        refine wp_pures hn hi (s := Builtin.len_ c.argTypes o.type (c.args.map a.eval)) (by rw [hx]; rfl) (.int h ?_)
        obtain ⟨p, rfl⟩ := g2
        simp [Builtin.len_, htt, g1, run_underlying hu, goInt]
    · rename_i s ht hv
      obtain ⟨v, g1, g2⟩ := args0 he hv
      cases htt : c.argTypes[0]? with
      | none => rw [htt] at ht; cases ht
      | some t =>
        rw [htt] at ht
        have hu := tyI_str (Option.some.inj ht)
        refine wp_pures hn hi (s := Builtin.len_ c.argTypes o.type (c.args.map a.eval)) (by rw [hx]; rfl) (.int h ?_)
        obtain rfl : v = _ := g2
        simp [Builtin.len_, htt, g1, run_underlying hu, goInt]
    · exact h.elim
  case h_2 hcal =>
    have hx := hb _ hcal
    split at h
    · rename_i e ht hv
      obtain ⟨v, g1, g2⟩ := args0 he hv
      cases htt : c.argTypes[0]? with
      | none => rw [htt] at ht; cases ht
      | some t =>
        rw [htt] at ht
        have hu := tyI_slice (Option.some.inj ht)
        refine wp_pures hn hi (s := Builtin.cap_ c.argTypes o.type (c.args.map a.eval)) (by rw [hx]; rfl) (.int h ?_)
        obtain ⟨p, rfl⟩ := g2
        simp [Builtin.cap_, htt, g1, run_underlying hu, goInt]
    · rename_i e n off len ht hv
      obtain ⟨v, g1, g2⟩ := args0 he hv
      cases htt : c.argTypes[0]? with
      | none => rw [htt] at ht; cases ht
      | some t =>
        rw [htt] at ht
        have hu := tyI_slice (Option.some.inj ht)
        rcases g2 with ⟨L, cp, q1, q2, q3, rfl⟩ | ⟨rfl, p, rfl⟩
        · exact wp_pures hn hi (s := Builtin.cap_ c.argTypes o.type (c.args.map a.eval)) (by rw [hx]; rfl) (.int (h cp q2) (by simp [Builtin.cap_, htt, g1, run_underlying hu, goInt]))
        · exact wp_pures hn hi (s := Builtin.cap_ c.argTypes o.type (c.args.map a.eval)) (by rw [hx]; rfl) (.int (h 0 (Nat.le_refl _)) (by simp [Builtin.cap_, htt, g1, run_underlying hu, goInt]))
    · exact h.elim
  case h_3 hcal =>
    have hx := hb _ hcal
    split at h
    · rename_i t t2 s x e1 e2 e3 e4
      split at h
      · rename_i e ht2
        obtain ⟨vs, g1, g2⟩ := args0 he e3
        obtain ⟨vx, g3, g4⟩ := args0 he e4
        obtain ⟨cc, w', ν', v, H', r1, r2, r3, r4, r5⟩ := sAppend_ok (ty := o.type) hi g2 g4 ht2 h
        refine wp_runs hn (s := Builtin.append_ c.argTypes o.type (c.args.map a.eval)) (by rw [hx]; rfl) ⟨cc, w', ν', v, H', ?_, r2, r3, r4, r5⟩
        rw [← r1]
        simp [Builtin.append_, e1, e2, g1, g3]
      · rename_i k ht2
        obtain ⟨vs, g1, g2⟩ := args0 he e3
        obtain ⟨vx, g3, g4⟩ := args0 he e4
        obtain ⟨cc, w', ν', v, H', r1, r2, r3, r4, r5⟩ := sMake_ok (ty := o.type) hi g2 g4 (tyI_int ht2) h
        refine wp_runs hn (s := Builtin.append_ c.argTypes o.type (c.args.map a.eval)) (by rw [hx]; rfl) ⟨cc, w', ν', v, H', ?_, r2, r3, r4, r5⟩
        rw [← r1]
        simp [Builtin.append_, e1, e2, g1, g3]
      · exact h.elim
    · exact h.elim
  case h_4 f hcal =>
    have hf := ev_ok he f
    split at h
    · rename_i g caps hfe
      rw [hfe] at hf
      obtain ⟨arr, hf, hF⟩ := hf
      have hargs : F2 (VR ν) (c.args.toList.map (ev env) ++ caps.map fun p => AV.ptr p.1 p.2) (c.args.map a.eval ++ arr).toList := by
        rw [Array.toList_append, Array.toList_map]
        exact F2.append (F2.mapr (fun x => ev_ok he x) _) (F2.map (f := fun p : Nat × Nat => AV.ptr p.1 p.2) (fun p v hp => hp) hF)
      obtain ⟨hr, hC⟩ := hc g _ H nm K h G hp ν w (c.args.map a.eval ++ arr) hi hargs
      unfold Oper.wp
      have : execOp a.eval o = callFunc g (c.args.map a.eval ++ arr) := by
        simp [execOp, ho, resolve, hcal, hf, Deferred.ofValue, invoke]
      rw [this, hr]
      simp only [Oper.upon]
      refine hC.mono ?_
      rintro e w' ⟨cc, r, H', ν', rfl, r1, r2, r3, r4⟩
      exact hn _ _ _ _ _ r1 r2 r3 r4
    · exact h.elim
  case h_5 => exact h.elim

theorem stp_sound {call : CallT} (hc : CallOk P call) {nm : Nat} {o : Oper} {env : Env} {K : Kt} {a : Act} {next : Act → World → Prop} {Q : Exit → Act → World → Prop}
    (he : EnvRel ν env a.tmps) (hi : Inv G hp ν H w) (h : stp P call nm o env H K) (hn : Nexts G hp ν o a K next) : o.wp P a w next Q := by
  unfold stp at h
  split at h
  case h_1 x ho => exact wp_value hn hi (by simp [execOp, ho]) (ev_ok he x) h
  case h_2 x ho => exact wp_value hn hi (by simp [execOp, ho]) (ev_ok he x) h
  case h_3 c x y ho =>
    have hcv := ev_ok he c
    split at h
    · rename_i t hct
      rw [hct] at hcv
      have hcv : a.eval c = .bool t := hcv
      cases t with
      | true => exact wp_value (v := ev env x) hn hi (by simp [execOp, ho, hcv, asBool]) (ev_ok he x) (h.1 rfl)
      | false => exact wp_value (v := ev env y) hn hi (by simp [execOp, ho, hcv, asBool]) (ev_ok he y) (h.2 rfl)
    · exact h.elim
  case h_4 t ho =>
    obtain ⟨⟨h1, h2, h3⟩, h⟩ := h
    obtain ⟨i, z, q1, q2, q3, q4, q5, q6⟩ := zero_ok h2 h3 ν
    obtain ⟨hk, hI⟩ := fresh_ok (nm := nm) hi h1 z.cells t (.av 1 (tyI P t).zero) q6
    refine wp_runs (s := Instr.alloc t true (.tuple #[])) hn (by simp [execOp, ho]) ⟨_, _, _, .ptr nm 0, _, ?_, hk, ⟨_, upd_self _ _ _, rfl⟩, hI, h⟩
    simp [Instr.alloc, zeroValue, typeInfo, q1, q2, newVar, newRow]
  case h_5 t x ho =>
    obtain ⟨⟨h1, h2⟩, h⟩ := h
    have hx := ((ev_ok he x).fits h2).cells
    obtain ⟨hk, hI⟩ := fresh_ok (nm := nm) hi h1 (a.eval x).cells t (.av 1 (cellsOf (ev env x))) hx
    refine wp_runs (s := Instr.box t (a.eval x)) hn (by simp [execOp, ho]) ⟨_, _, _, .ptr nm 0, _, ?_, hk, ⟨_, upd_self _ _ _, rfl⟩, hI, h⟩
    simp [Instr.box, newVar, newRow]
  case h_6 t parts ho =>
    split at h
    · rename_i cs hcs
      obtain ⟨⟨h1, h2⟩, h⟩ := h
      obtain ⟨c, r1, r2⟩ := build_ok (w := w) (vparts := parts.map fun (i, x) => (i, a.eval x)) (parts_ok he parts) hcs h1 h2
      exact wp_pures (s := Instr.build t (parts.map fun (i, x) => (i, a.eval x))) hn hi (by simp [execOp, ho]) (.mk _ r1 r2 h)
    · exact h.elim
  case h_7 t len parts ho =>
    split at h
    case h_2 => exact h.elim
    case h_1 e ht =>
    obtain ⟨⟨h1, h2, h3, h4, h5, h6, h7, h8⟩, h⟩ := h
    refine wp_runs (s := Instr.buildSlice t len (parts.map fun (i, x) => (i, a.eval x))) hn (by simp [execOp, ho]) ?_
    refine buildSlice_ok hi ht (parts_ok he parts) h1 (by simpa using h2) h3 h4 h5 h6 ?_ _ (LV.mk_eq _ _ _) ?_ (by simpa [List.flatMap_map] using h)
    · simpa [List.all_map, Function.comp_def] using h7
    · simpa [List.flatMap_map] using h8
  case h_8 t x ho => 
    obtain ⟨cv, v, r1, r2, r3⟩ := sLoad_ok (K := fun v => K v H) hi (ev_ok he x) h
    exact wp_pures (s := Instr.loadAt t (a.eval x)) hn hi (by simp [execOp, ho]) (.mk v r1 r2.vr r3)
  case h_9 t x y ho =>
    obtain ⟨w', H', r1, r2, r3⟩ := sStore_ok hi (ev_ok he x) (ev_ok he y) h
    unfold Oper.wp
    simp only [execOp, ho, Sem.run_bind, r1, Result.andThen_ok, Sem.run_pure, Oper.upon]
    exact hn ν (.tup []) undef H' w' (.refl ν) ⟨#[], rfl, .nil⟩ r2 r3
  case h_10 x ho =>
    have hx := ev_ok he x
    split at h
    · rename_i n off hxe
      rw [hxe] at hx
      obtain ⟨L, hL, hx⟩ := hx
      exact wp_value (v := .ptr n off) hn hi (c := a.eval x) (by simp only [execOp, ho]; rw [hx]) (by rw [hx]; exact ⟨L, hL, rfl⟩) h
    · rename_i f caps hxe
      rw [hxe] at hx
      obtain ⟨arr, hx, hF⟩ := hx
      exact wp_value (v := .fn f caps) hn hi (c := a.eval x) (by simp only [execOp, ho]; rw [hx]) (by rw [hx]; exact ⟨arr, rfl, hF⟩) h
    · exact h.elim
  case h_11 op t x y yt ho =>
    split at h
    · rename_i hnil
      have hy : y = .const (.slice none 0 0) := by
        unfold isNil at hnil
        split at hnil
        · rfl
        · cases hnil
      subst hy
      exact wp_pures hn hi (s := (do eqGuard op t x (.const (.slice none 0 0)) (a.eval x) (.slice none 0 0); binOp op t (a.eval x) (.slice none 0 0))) (by simp [execOp, ho, Act.eval]) (sNil_ok (ev_ok he x) h)
    · exact wp_pures hn hi (s := (do eqGuard op t x y (a.eval x) (a.eval y); binOp op t (a.eval x) (a.eval y))) (by simp [execOp, ho]) (sBin_ok (ev_ok he x) (ev_ok he y) h)
  case h_12 op t x ho => exact wp_pures hn hi (s := Op.unary op (a.eval x)) (by simp [execOp, ho]) (sUn_ok (ev_ok he x) h)
  case h_13 src dst x ho =>
    have hx := ev_ok he x
    split at h
    · rename_i k0 k k1 n h1 h2 h3
      rw [h3] at hx
      have hx : a.eval x = .int k1 n := hx
      refine wp_pures hn hi (s := convert src dst (a.eval x)) (by simp [execOp, ho]) (.int h ?_)
      simp [convert, run_underlying (tyI_int h1), run_underlying (tyI_int h2), hx, Conv.intToInt]
    · rename_i e h1 h2
      obtain ⟨h0, h⟩ := h
      split at h
      · rename_i l hsrc
        exact wp_pures hn hi (s := convert src dst (a.eval x)) (by simp [execOp, ho]) (.str h (run_bytes h1 h2 (tyI_int h0) hi hx hsrc))
      · exact h.elim
    · exact h.elim
  case h_14 f first caps ho =>
    obtain ⟨h1, h⟩ := h
    split at h
    · rename_i ps hps
      have hF := caps_ok he caps.toList ps hps
      have hfirst : first = #[] := Array.eq_empty_of_size_eq_zero h1
      refine wp_value (v := .fn f ps) (c := .func (.func f) #[] (caps.map a.eval)) hn hi ?_ ⟨_, rfl, by simpa using hF⟩ h
      simp [execOp, ho, Instr.makeFunc, hfirst]
    · exact h.elim
  case h_15 t l c ho =>
    split at h
    case h_2 => exact h.elim
    case h_1 e n m ht hl hcc =>
    obtain ⟨⟨h1, h2, h3, rfl, h5, h6, h7, h8⟩, h⟩ := h
    obtain ⟨i, z, q1, q2, q3, q4, q5, q6⟩ := zero_ok h5 h6 ν
    have hlv := ev_ok he l
    have hcv := ev_ok he c
    rw [hl] at hlv
    rw [hcc] at hcv
    have hlv : a.eval l = .int .i64 m := hlv
    have hcv : a.eval c = .int .i64 m := hcv
    have hu := tyI_slice ht
    have hzp : 0 < z.cells.size := by rw [q5]; exact h5
    have hF : F2 (CR ν) (LV.rep (tyI P e).ek (tyI P e).sz m.toNat (tyI P e).zero).toL ((Array.range (m.toNat * z.cells.size)).map (z.cells[· % z.cells.size]!)).toList := by
      rw [LV.rep_eq, rep_cells z.cells hzp]
      exact F2.rep q6 _
    obtain ⟨hk, hI⟩ := fresh_ok (nm := nm) hi h1 _ e _ hF
    have hwrap : IntKind.i64.wrap m = m := by
      unfold lim40 at h3
      exact IntWalk.i64_in _ (by omega)
    have hrun : (Instr.makeSlice t (.int .i64 m) (.int .i64 m)).run P w = .ok (.slice (some ⟨w.heap.size, 0, none⟩) m.toNat m.toNat) (w.alloc (.cells ((Array.range (m.toNat * z.cells.size)).map (z.cells[· % z.cells.size]!)) e)) := by
      unfold lim40 at h3
      have hb : ¬ (281474976710656 : Int) < (i.bytes : Int) * m := by
        have h1 : (i.bytes : Int) ≤ 120 := by rw [q4]; omega
        have h2 : (i.bytes : Int) * m ≤ 120 * 1099511627776 := Int.mul_le_mul h1 (by omega) (by omega) (by omega)
        omega
      have hnn : ¬ m < 0 := by omega
      by_cases hz0 : m.toNat * i.size = 0
      · have hm0 : m.toNat = 0 := by
          rcases Nat.mul_eq_zero.1 hz0 with h | h
          · exact h
          · omega
        have hm : m = 0 := by omega
        subst hm
        have hr0 : Array.range 0 = #[] := rfl
        simp [Instr.makeSlice, run_underlying hu, asInt, asIntOf, typeInfo, q1, hwrap, sizeOf, newRow, hr0]
      · simp [Instr.makeSlice, run_underlying hu, asInt, asIntOf, typeInfo, q1, q2, hwrap, sizeOf, newRow, hb, hnn, zeroValue, q3, q5]
        intro hc0; rw [q3] at hz0; exact absurd hc0 hz0
    refine wp_runs (s := Instr.makeSlice t (a.eval l) (a.eval c)) hn (by simp [execOp, ho]) ⟨_, _, _, .sl nm 0 m.toNat, _, by rw [hlv, hcv]; exact hrun, hk, Or.inl ⟨_, m.toNat, upd_self _ _ _, Nat.le_refl _, ?_, rfl⟩, hI, h⟩
    simp [h8, q5]
  case h_16 t x lo hi' mx ho => exact wp_pures hn hi (s := Instr.sliceAt t (a.eval x) (lo.map a.eval) (hi'.map a.eval) (mx.map a.eval)) (by simp [execOp, ho]) (sSlice_ok hi he (ev_ok he x) h)
  case h_17 s x f ho =>
    split at h
    case h_2 => exact h.elim
    case h_1 fs n off ht hx =>
    split at h
    case h_2 => exact h.elim
    case h_1 o' sz hf =>
    obtain ⟨h1, h⟩ := h
    obtain ⟨fields, hu, hfs⟩ := tyI_struct ht
    obtain ⟨fld, g1, g2, j, g3, g4⟩ := fields_get hfs hf
    have hxv := ev_ok he x
    rw [hx] at hxv
    obtain ⟨L, hL, hxv⟩ := hxv
    refine wp_pures hn hi (s := Instr.fieldAt s (a.eval x) f) (by simp [execOp, ho]) (.mk (.ptr n (off + o')) (c := .pointer (some ⟨L.blk, L.off + (off + o'), none⟩)) ?_ ⟨L, hL, rfl⟩ h)
    simp [Instr.fieldAt, run_underlying hu, g1, hxv, Instr.sureAddr, fieldPlace, sizeOf, typeInfo, g3, g4, h1, g2, add_loc, Nat.add_assoc]
  case h_18 t x i ho =>
    split at h
    case h_2 => exact h.elim
    case h_1 e n off len k j ht hx hj =>
    obtain ⟨⟨h0, h1, h2⟩, h⟩ := h
    have hxv := ev_ok he x
    have hjv := ev_ok he i
    rw [hx] at hxv
    rw [hj] at hjv
    have hjv : a.eval i = .int k j := hjv
    have hu := tyI_slice ht
    obtain ⟨ti, d, g1, _, g3⟩ := tyI_pos h0
    have g2 : ti.size = (tyI P e).sz := by rw [g3]; rfl
    rcases hxv with ⟨L, c, q1, q2, q3, hxv⟩ | ⟨q1, _⟩
    case inr => omega
    refine wp_pures hn hi (s := Instr.indexAt t (a.eval x) (a.eval i)) (by simp [execOp, ho]) (.mk (.ptr n (off + j.toNat * (tyI P e).sz)) (c := .pointer (some ⟨L.blk, L.off + (off + j.toNat * (tyI P e).sz), none⟩)) ?_ ⟨L, q1, rfl⟩ h)
    simp [Instr.indexAt, asIntOf, run_underlying hu, hxv, hjv, h1, h2, sizeOf, typeInfo, g1, g2, add_loc, Nat.add_assoc]
  case h_19 t x i ho =>
    split at h
    case h_2 => exact h.elim
    case h_1 s k j ht hx hj =>
    obtain ⟨⟨h1, h2⟩, h⟩ := h
    have hxv := ev_ok he x
    have hjv := ev_ok he i
    rw [hx] at hxv
    rw [hj] at hjv
    have hjv : a.eval i = .int k j := hjv
    have hxv : a.eval x = .string s := hxv
    have hu := tyI_str ht
    refine wp_pures hn hi (s := Instr.index t (a.eval x) (a.eval i)) (by simp [execOp, ho]) (.int h ?_)
    have hlt : j.toNat < s.size := by omega
    have hget : s[j.toNat]? = some (s.data.getD j.toNat 0) := by
      rw [getElem?_pos s j.toNat hlt]
      have : j.toNat < s.data.size := hlt
      rw [Array.getD, dif_pos this]
      rfl
    simp [Instr.index, asIntOf, run_underlying hu, hxv, hjv, h1, hget]
  case h_20 t i ho =>
    have htv := ev_ok he t
    split at h
    case h_2 => exact h.elim
    case h_1 vs hvs =>
    rw [hvs] at htv
    obtain ⟨arr, htv, hF⟩ := htv
    split at h
    case h_2 => exact h.elim
    case h_1 v hv =>
    obtain ⟨h1, h⟩ := h
    obtain ⟨c, hcv, hr⟩ := hF.get hv
    refine wp_pures hn hi (s := Instr.extract (a.eval t) i) (by simp [execOp, ho]) (.mk v (c := c) ?_ hr.vr h)
    rw [htv]
    simp at hcv
    simp [Instr.extract, hcv]
  case h_21 c ho => exact call_sound hc he hi ho h hn
  case h_22 t x f ho =>
    have hxv := ev_ok he x
    split at h
    case h_2 => exact h.elim
    case h_1 o' cs hf hx =>
    rw [hx] at hxv
    obtain ⟨arr, hxv, hF⟩ := hxv
    split at h
    case h_2 => exact h.elim
    case h_1 v hv =>
    obtain ⟨h1, h⟩ := h
    obtain ⟨c, hcv, hr⟩ := hF.get hv
    unfold fldI at hf
    split at hf
    case h_2 => cases hf
    case h_1 fields hu =>
    split at hf
    case h_2 => cases hf
    case h_1 fl hfl =>
    split at hf
    case isFalse => cases hf
    case isTrue hag =>
    cases hf
    obtain ⟨ti, d, g1, g2, g3⟩ := tyI_pos hag.2
    have hag1 := hag.1
    rw [g3] at hag1
    clear g3
    refine wp_pures hn hi (s := Instr.field t (a.eval x) f) (by simp [execOp, ho]) (.mk v (c := c) ?_ (CR.va' hr).vr h)
    rw [hxv]
    have hcv : arr[fl.offset]? = some c := by simpa using hcv
    simp [Instr.field, run_underlying hu, hfl, asAgg, part, isAgg, run_underlying g2]
    cases d <;> simp [mkTI] at hag1 ⊢ <;> simp [hcv]
  case h_23 => exact h.elim

end
end Go.Proofs.Ytbcnkfkmonpdeaa.S
