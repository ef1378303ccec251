/- Texts of this claim's own layer, laid as one: Si Sj Sk Sl Sm Sn So. Own work of this claim. -/
import Derived.Test.YtbobhbhgomkgpaaGreatDoorA1
import Derived.Laws.BytesString
import Derived.IntWalk
/- The symbolic heap: the step of an operation and of a region in its text's order is sound. Own work of this claim. -/
namespace Go.Proofs.YtbobhbhgomkgpaaGreatDoor.S
set_option linter.all false
open Go
theorem CR.va' {ν : Nm} {c : AV} {v : Value} (h : CR ν c v) : VA ν c v := by
  cases c <;> first | exact h | (simp [CR] at h)

section
variable {P : Program} {G : Nat → Prop} {hp : HP} {ν : Nm} {H : Heap} {w : World}

theorem build_ok {t : TypeId} {parts : List (Nat × AV)} {vparts : Array (Nat × Value)} {cs : List AV} (hF : F2 (fun p q => p.1 = q.1 ∧ VR ν p.2 q.2) parts vparts.toList)
    (h : sBuild (tyI P t) parts = some cs) (hpos : 0 < (tyI P t).sz) (hz : (tyI P t).zero.length = (tyI P t).sz) : ∃ c, (Instr.build t vparts).run P w = .ok c w ∧ VR ν (.agg cs) c := by
  obtain ⟨i, z, q1, q2, q3, q4, q5, q6⟩ := zero_ok hpos hz ν
  unfold sBuild at h
  split at h
  case h_2 => cases h
  case h_1 fs ht =>
  obtain ⟨fields, hu, hplaces⟩ := tyI_struct ht
  obtain ⟨arr, f1, f2⟩ := fill_ok (ν := ν) _ parts vparts.toList _ z.cells _ hF q6 h
  refine ⟨.agg arr, run_build w t vparts arr ?_, arr, rfl, f2⟩
  unfold Program.built
  simp only [q1, hu, q2, hplaces]
  have : (fun i : Nat => fs.toArray[i]?) = (fun i : Nat => fs[i]?) := by funext i; simp
  rw [this]; exact f1

theorem fields_get {fields : Array Field} {fs : List (Nat × Nat)} (h : fields.toList.mapM (fun f => (P.info? f.type).map fun i => (f.offset, i.size)) = some fs) {f o sz : Nat} (hf : fs[f]? = some (o, sz)) :
    ∃ fld : Field, fields[f]? = some fld ∧ fld.offset = o ∧ ∃ j, P.info? fld.type = some j ∧ j.size = sz := by
  have hh : ∀ (l : List Field) (fs : List (Nat × Nat)) (f : Nat), l.mapM (fun f => (P.info? f.type).map fun i => (f.offset, i.size)) = some fs → fs[f]? = some (o, sz) → ∃ fld : Field, l[f]? = some fld ∧ fld.offset = o ∧ ∃ j, P.info? fld.type = some j ∧ j.size = sz := by
    intro l
    induction l with
    | nil => intro fs f h hf; simp at h; subst h; simp at hf
    | cons a l ih =>
      intro fs f h hf
      simp only [List.mapM_cons, Option.bind_eq_bind, Option.pure_def] at h
      cases hi : P.info? a.type with
      | none => simp [hi] at h
      | some j =>
        cases hr : l.mapM (fun f => (P.info? f.type).map fun i => (f.offset, i.size)) with
        | none => simp [hi, hr] at h
        | some rest =>
          simp [hi, hr] at h
          subst h
          cases f with
          | zero => simp at hf; exact ⟨a, rfl, hf.1, j, hi, hf.2⟩
          | succ f => simpa using ih rest f hr (by simpa using hf)
  obtain ⟨fld, h1, h2⟩ := hh fields.toList fs f h hf
  exact ⟨fld, by simpa using h1, h2⟩

theorem caps_ok {env : Env} {a : Act} (he : EnvRel ν env a.tmps) : ∀ (caps : List Operand) (ps : List (Nat × Nat)), caps.mapM (fun x => match ev env x with | .ptr n o => some (n, o) | _ => none) = some ps → F2 (PR ν) ps (caps.map a.eval)
  | [], ps, h => by simp at h; subst h; exact .nil
  | x :: caps, ps, h => by
    simp only [List.mapM_cons, Option.bind_eq_bind, Option.pure_def] at h
    cases hx : (match ev env x with | .ptr n o => some (n, o) | _ => none : Option (Nat × Nat)) with
    | none => simp [hx] at h
    | some p =>
      cases hr : caps.mapM (fun x => match ev env x with | .ptr n o => some (n, o) | _ => none) with
      | none => simp [hx, hr] at h
      | some rest =>
        simp [hx, hr] at h
        subst h
        refine .cons ?_ (caps_ok he caps rest hr)
        have hv := ev_ok he x
        split at hx
        · rename_i n o hxe
          cases hx
          rw [hxe] at hv; exact hv
        · cases hx

theorem push_all : ∀ (l : List UInt8) (acc : ByteArray), (l.map fun b => (b.toNat : Int)).foldl (fun r n => r.push (UInt8.ofNat n.toNat)) acc = acc ++ ⟨l.toArray⟩
  | [], acc => by simp; apply ByteArray.ext; simp
  | b :: l, acc => by
    simp only [List.map_cons, List.foldl_cons]
    rw [push_all l]
    apply ByteArray.ext
    simp [ByteArray.data_append]
theorem run_bytes {src dst e : TypeId} {x : AV} {c : Value} {l : List UInt8} (h1 : (tyI P src).tk = .slice e) (h2 : (tyI P dst).tk = .str) (he : P.underlying e = some (.int .u8)) (hi : Inv G hp ν H w) (hx : VR ν x c) (h : srcOf H 1 x = some (.bys l)) :
    (convert src dst c).run P w = .ok (.string ⟨l.toArray⟩) w := by
  unfold srcOf at h
  split at h
  · simp at h
  · rename_i n o len
    split at h
    · rename_i own lv hH
      split at h
      · rename_i hc
        have hv : lv.view o (len * 1) = .bys l := by simpa using h
        have hL := congrArg LV.toL hv
        rw [LV.view_eq] at hL
        rcases hx with ⟨L, cp, q1, q2, q3, rfl⟩ | ⟨rfl, p, rfl⟩
        · obtain ⟨vs, v1, v2, v3⟩ := (hi.er n _ hH).cells q1 o (len * 1) hc.1
          rw [hL] at v1
          have hvs : vs = (l.map fun b => (b.toNat : Int)).map (Value.int .u8) := by
            have hh : ∀ (l : List UInt8) (vs : List Value), F2 (CR ν) (l.map fun b => AV.int .u8 b.toNat) vs → vs = (l.map fun b => (b.toNat : Int)).map (Value.int .u8) := by
              intro l
              induction l with
              | nil => intro vs h; cases h; rfl
              | cons b l ih =>
                intro vs h
                cases h with
                | cons hb ht =>
                  have hb : _ = _ := hb
                  rw [hb, ih _ ht]; rfl
            exact hh l vs v1
          have hl := run_loadCells_list (P := P) w ⟨L.blk, L.off + o, none⟩ vs v3
          rw [v2, Nat.mul_one, hvs] at hl
          have := run_bytesToString (P := P) w ⟨L.blk, L.off + o, none⟩ len cp _ hl
          rw [push_all] at this
          simp [convert, run_underlying (tyI_slice h1), run_underlying (tyI_str h2), run_underlying he, this]
        · have hl0 : l = [] := by
            simp at hL
            simpa [LV.toL] using hL.symm
          subst hl0
          cases p with
          | none => simp [convert, run_underlying (tyI_slice h1), run_underlying (tyI_str h2), run_underlying he, Conv.bytesToString]; rfl
          | some p =>
            have := run_bytesToString (P := P) w p 0 0 [] (by simp [loadCells, loadCellsFrom])
            simp [convert, run_underlying (tyI_slice h1), run_underlying (tyI_str h2), run_underlying he, this]; rfl
      · cases h
    · cases h
  · cases h

theorem args0 {env : Env} {a : Act} (he : EnvRel ν env a.tmps) {xs : Array Operand} {i : Nat} {v : AV} (h : (xs[i]?).map (ev env) = some v) : ∃ c, (xs.map a.eval)[i]? = some c ∧ VR ν v c := by
  cases hx : xs[i]? with
  | none => rw [hx] at h; cases h
  | some x => rw [hx] at h; cases h; exact ⟨a.eval x, by simp [hx], ev_ok he x⟩
theorem call_sound {call : CallT} (hc : CallOkH P call G hp) {nm : Nat} {o : Oper} {c : Call} {env : Env} {K : Kt} {a : Act} {next : Act → World → Prop} {Q : Exit → Act → World → Prop}
    (he : EnvRel ν env a.tmps) (hi : Inv G hp ν H w) (ho : o.op = .call c) (h : sCall P call nm H c env K) (hn : Nexts G hp ν o a K next) : o.wp P a w next Q := by
  have hb : ∀ (b : Builtin), c.callee = .builtin b → execOp a.eval o = builtin b c.argTypes o.type (c.args.map fun | .const _ => true | _ => false) (c.args.map a.eval) := by
    intro b hb
    simp [execOp, ho, resolve, hb, invoke]
    rfl
  unfold sCall at h
  split at h
  case h_1 hcal =>
    have hx := hb _ hcal
    split at h
    · rename_i e n off len ht hv
      obtain ⟨v, g1, g2⟩ := args0 he hv
      cases htt : c.argTypes[0]? with
      | none => rw [htt] at ht; cases ht
      | some t =>
        rw [htt] at ht
        have hu := tyI_slice (Option.some.inj ht)
        refine wp_pures hn hi (s := Builtin.len_ c.argTypes o.type (c.args.map a.eval)) (by rw [hx]; rfl) (.int h ?_)
        rcases g2 with ⟨L, cp, q1, q2, q3, rfl⟩ | ⟨rfl, p, rfl⟩ <;> simp [Builtin.len_, htt, g1, run_underlying hu, goInt]
    · rename_i e ht hv
      obtain ⟨v, g1, g2⟩ := args0 he hv
      cases htt : c.argTypes[0]? with
      | none => rw [htt] at ht; cases ht
      | some t =>
        rw [htt] at ht
        have hu := tyI_slice (Option.some.inj ht)
        refine wp_pures hn hi (s := Builtin.len_ c.argTypes o.type (c.args.map a.eval)) (by rw [hx]; rfl) (.int h ?_)
        obtain ⟨p, rfl⟩ := g2
        simp [Builtin.len_, htt, g1, run_underlying hu, goInt]
    · rename_i s ht hv
      obtain ⟨v, g1, g2⟩ := args0 he hv
      cases htt : c.argTypes[0]? with
      | none => rw [htt] at ht; cases ht
      | some t =>
        rw [htt] at ht
        have hu := tyI_str (Option.some.inj ht)
        refine wp_pures hn hi (s := Builtin.len_ c.argTypes o.type (c.args.map a.eval)) (by rw [hx]; rfl) (.int h ?_)
        obtain rfl : v = _ := g2
        simp [Builtin.len_, htt, g1, run_underlying hu, goInt]
    · exact h.elim
  case h_2 hcal =>
    have hx := hb _ hcal
    split at h
    · rename_i e ht hv
      obtain ⟨v, g1, g2⟩ := args0 he hv
      cases htt : c.argTypes[0]? with
      | none => rw [htt] at ht; cases ht
      | some t =>
        rw [htt] at ht
        have hu := tyI_slice (Option.some.inj ht)
        refine wp_pures hn hi (s := Builtin.cap_ c.argTypes o.type (c.args.map a.eval)) (by rw [hx]; rfl) (.int h ?_)
        obtain ⟨p, rfl⟩ := g2
        simp [Builtin.cap_, htt, g1, run_underlying hu, goInt]
    · rename_i e n off len ht hv
      obtain ⟨v, g1, g2⟩ := args0 he hv
      cases htt : c.argTypes[0]? with
      | none => rw [htt] at ht; cases ht
      | some t =>
        rw [htt] at ht
        have hu := tyI_slice (Option.some.inj ht)
        rcases g2 with ⟨L, cp, q1, q2, q3, rfl⟩ | ⟨rfl, p, rfl⟩
        · exact wp_pures hn hi (s := Builtin.cap_ c.argTypes o.type (c.args.map a.eval)) (by rw [hx]; rfl) (.int (h cp q2) (by simp [Builtin.cap_, htt, g1, run_underlying hu, goInt]))
        · exact wp_pures hn hi (s := Builtin.cap_ c.argTypes o.type (c.args.map a.eval)) (by rw [hx]; rfl) (.int (h 0 (Nat.le_refl _)) (by simp [Builtin.cap_, htt, g1, run_underlying hu, goInt]))
    · exact h.elim
  case h_3 hcal =>
    have hx := hb _ hcal
    split at h
    · rename_i t t2 s x e1 e2 e3 e4
      split at h
      · rename_i e ht2
        obtain ⟨vs, g1, g2⟩ := args0 he e3
        obtain ⟨vx, g3, g4⟩ := args0 he e4
        obtain ⟨cc, w', ν', v, H', r1, r2, r3, r4, r5⟩ := sAppend_ok (ty := o.type) hi g2 g4 ht2 h
        refine wp_runs hn (s := Builtin.append_ c.argTypes o.type (c.args.map a.eval)) (by rw [hx]; rfl) ⟨cc, w', ν', v, H', ?_, r2, r3, r4, r5⟩
        rw [← r1]
        simp [Builtin.append_, e1, e2, g1, g3]
      · rename_i k ht2
        obtain ⟨vs, g1, g2⟩ := args0 he e3
        obtain ⟨vx, g3, g4⟩ := args0 he e4
        obtain ⟨cc, w', ν', v, H', r1, r2, r3, r4, r5⟩ := sMake_ok (ty := o.type) hi g2 g4 (tyI_int ht2) h
        refine wp_runs hn (s := Builtin.append_ c.argTypes o.type (c.args.map a.eval)) (by rw [hx]; rfl) ⟨cc, w', ν', v, H', ?_, r2, r3, r4, r5⟩
        rw [← r1]
        simp [Builtin.append_, e1, e2, g1, g3]
      · exact h.elim
    · exact h.elim
  case h_4 f hcal =>
    have hf := ev_ok he f
    split at h
    · rename_i g caps hfe
      rw [hfe] at hf
      obtain ⟨arr, hf, hF⟩ := hf
      have hargs : F2 (VR ν) (c.args.toList.map (ev env) ++ caps.map fun p => AV.ptr p.1 p.2) (c.args.map a.eval ++ arr).toList := by
        rw [Array.toList_append, Array.toList_map]
        exact F2.append (F2.mapr (fun x => ev_ok he x) _) (F2.map (f := fun p : Nat × Nat => AV.ptr p.1 p.2) (fun p v hp => hp) hF)
      obtain ⟨hr, hC⟩ := hc g _ H nm K h ν w (c.args.map a.eval ++ arr) hi hargs
      unfold Oper.wp
      have : execOp a.eval o = callFunc g (c.args.map a.eval ++ arr) := by
        simp [execOp, ho, resolve, hcal, hf, Deferred.ofValue, invoke]
      rw [this, hr]
      simp only [Oper.upon]
      refine hC.mono ?_
      rintro e w' ⟨cc, r, H', ν', rfl, r1, r2, r3, r4⟩
      exact hn _ _ _ _ _ r1 r2 r3 r4
    · exact h.elim
  case h_5 => exact h.elim

theorem stp_sound {call : CallT} (hc : CallOkH P call G hp) {nm : Nat} {o : Oper} {env : Env} {K : Kt} {a : Act} {next : Act → World → Prop} {Q : Exit → Act → World → Prop}
    (he : EnvRel ν env a.tmps) (hi : Inv G hp ν H w) (h : stp P call nm o env H K) (hn : Nexts G hp ν o a K next) : o.wp P a w next Q := by
  unfold stp at h
  split at h
  case h_1 x ho => exact wp_value hn hi (by simp [execOp, ho]) (ev_ok he x) h
  case h_2 x ho => exact wp_value hn hi (by simp [execOp, ho]) (ev_ok he x) h
  case h_3 c x y ho =>
    have hcv := ev_ok he c
    split at h
    · rename_i t hct
      rw [hct] at hcv
      have hcv : a.eval c = .bool t := hcv
      cases t with
      | true => exact wp_value (v := ev env x) hn hi (by simp [execOp, ho, hcv, asBool]) (ev_ok he x) (h.1 rfl)
      | false => exact wp_value (v := ev env y) hn hi (by simp [execOp, ho, hcv, asBool]) (ev_ok he y) (h.2 rfl)
    · exact h.elim
  case h_4 t ho =>
    obtain ⟨⟨h1, h2, h3⟩, h⟩ := h
    obtain ⟨i, z, q1, q2, q3, q4, q5, q6⟩ := zero_ok h2 h3 ν
    obtain ⟨hk, hI⟩ := fresh_ok (nm := nm) hi h1 z.cells t (.av 1 (tyI P t).zero) q6
    refine wp_runs (s := Instr.alloc t true (.tuple #[])) hn (by simp [execOp, ho]) ⟨_, _, _, .ptr nm 0, _, ?_, hk, ⟨_, upd_self _ _ _, rfl⟩, hI, h⟩
    simp [Instr.alloc, zeroValue, typeInfo, q1, q2, newVar, newRow]
  case h_5 t x ho =>
    obtain ⟨⟨h1, h2⟩, h⟩ := h
    have hx := ((ev_ok he x).fits h2).cells
    obtain ⟨hk, hI⟩ := fresh_ok (nm := nm) hi h1 (a.eval x).cells t (.av 1 (cellsOf (ev env x))) hx
    refine wp_runs (s := Instr.box t (a.eval x)) hn (by simp [execOp, ho]) ⟨_, _, _, .ptr nm 0, _, ?_, hk, ⟨_, upd_self _ _ _, rfl⟩, hI, h⟩
    simp [Instr.box, newVar, newRow]
  case h_6 t parts ho =>
    split at h
    · rename_i cs hcs
      obtain ⟨⟨h1, h2⟩, h⟩ := h
      obtain ⟨c, r1, r2⟩ := build_ok (w := w) (vparts := parts.map fun (i, x) => (i, a.eval x)) (parts_ok he parts) hcs h1 h2
      exact wp_pures (s := Instr.build t (parts.map fun (i, x) => (i, a.eval x))) hn hi (by simp [execOp, ho]) (.mk _ r1 r2 h)
    · exact h.elim
  case h_7 t len parts ho =>
    split at h
    case h_2 => exact h.elim
    case h_1 e ht =>
    obtain ⟨⟨h1, h2, h3, h4, h5, h6, h7, h8⟩, h⟩ := h
    refine wp_runs (s := Instr.buildSlice t len (parts.map fun (i, x) => (i, a.eval x))) hn (by simp [execOp, ho]) ?_
    refine buildSlice_ok hi ht (parts_ok he parts) h1 (by simpa using h2) h3 h4 h5 h6 ?_ _ (LV.mk_eq _ _ _) ?_ (by simpa [List.flatMap_map] using h)
    · simpa [List.all_map, Function.comp_def] using h7
    · simpa [List.flatMap_map] using h8
  case h_8 t x ho => 
    obtain ⟨cv, v, r1, r2, r3⟩ := sLoad_ok (K := fun v => K v H) hi (ev_ok he x) h
    exact wp_pures (s := Instr.loadAt t (a.eval x)) hn hi (by simp [execOp, ho]) (.mk v r1 r2.vr r3)
  case h_9 t x y ho =>
    obtain ⟨w', H', r1, r2, r3⟩ := sStore_ok hi (ev_ok he x) (ev_ok he y) h
    unfold Oper.wp
    simp only [execOp, ho, Sem.run_bind, r1, Result.andThen_ok, Sem.run_pure, Oper.upon]
    exact hn ν (.tup []) undef H' w' (.refl ν) ⟨#[], rfl, .nil⟩ r2 r3
  case h_10 x ho =>
    have hx := ev_ok he x
    split at h
    · rename_i n off hxe
      rw [hxe] at hx
      obtain ⟨L, hL, hx⟩ := hx
      exact wp_value (v := .ptr n off) hn hi (c := a.eval x) (by simp only [execOp, ho]; rw [hx]) (by rw [hx]; exact ⟨L, hL, rfl⟩) h
    · rename_i f caps hxe
      rw [hxe] at hx
      obtain ⟨arr, hx, hF⟩ := hx
      exact wp_value (v := .fn f caps) hn hi (c := a.eval x) (by simp only [execOp, ho]; rw [hx]) (by rw [hx]; exact ⟨arr, rfl, hF⟩) h
    · exact h.elim
  case h_11 op t x y yt ho =>
    split at h
    · rename_i hnil
      have hy : y = .const (.slice none 0 0) := by
        unfold isNil at hnil
        split at hnil
        · rfl
        · cases hnil
      subst hy
      exact wp_pures hn hi (s := (do eqGuard op t x (.const (.slice none 0 0)) (a.eval x) (.slice none 0 0); binOp op t (a.eval x) (.slice none 0 0))) (by simp [execOp, ho, Act.eval]) (sNil_ok (ev_ok he x) h)
    · exact wp_pures hn hi (s := (do eqGuard op t x y (a.eval x) (a.eval y); binOp op t (a.eval x) (a.eval y))) (by simp [execOp, ho]) (sBin_ok (ev_ok he x) (ev_ok he y) h)
  case h_12 op t x ho => exact wp_pures hn hi (s := Op.unary op (a.eval x)) (by simp [execOp, ho]) (sUn_ok (ev_ok he x) h)
  case h_13 src dst x ho =>
    have hx := ev_ok he x
    split at h
    · rename_i k0 k k1 n h1 h2 h3
      rw [h3] at hx
      have hx : a.eval x = .int k1 n := hx
      refine wp_pures hn hi (s := convert src dst (a.eval x)) (by simp [execOp, ho]) (.int h ?_)
      simp [convert, run_underlying (tyI_int h1), run_underlying (tyI_int h2), hx, Conv.intToInt]
    · rename_i e h1 h2
      obtain ⟨h0, h⟩ := h
      split at h
      · rename_i l hsrc
        exact wp_pures hn hi (s := convert src dst (a.eval x)) (by simp [execOp, ho]) (.str h (run_bytes h1 h2 (tyI_int h0) hi hx hsrc))
      · exact h.elim
    · exact h.elim
  case h_14 f first caps ho =>
    obtain ⟨h1, h⟩ := h
    split at h
    · rename_i ps hps
      have hF := caps_ok he caps.toList ps hps
      have hfirst : first = #[] := Array.eq_empty_of_size_eq_zero h1
      refine wp_value (v := .fn f ps) (c := .func (.func f) #[] (caps.map a.eval)) hn hi ?_ ⟨_, rfl, by simpa using hF⟩ h
      simp [execOp, ho, Instr.makeFunc, hfirst]
    · exact h.elim
  case h_15 t l c ho =>
    split at h
    case h_2 => exact h.elim
    case h_1 e n m ht hl hcc =>
    obtain ⟨⟨h1, h2, h3, rfl, h5, h6, h7, h8⟩, h⟩ := h
    obtain ⟨i, z, q1, q2, q3, q4, q5, q6⟩ := zero_ok h5 h6 ν
    have hlv := ev_ok he l
    have hcv := ev_ok he c
    rw [hl] at hlv
    rw [hcc] at hcv
    have hlv : a.eval l = .int .i64 m := hlv
    have hcv : a.eval c = .int .i64 m := hcv
    have hu := tyI_slice ht
    have hzp : 0 < z.cells.size := by rw [q5]; exact h5
    have hF : F2 (CR ν) (LV.rep (tyI P e).ek (tyI P e).sz m.toNat (tyI P e).zero).toL ((Array.range (m.toNat * z.cells.size)).map (z.cells[· % z.cells.size]!)).toList := by
      rw [LV.rep_eq, rep_cells z.cells hzp]
      exact F2.rep q6 _
    obtain ⟨hk, hI⟩ := fresh_ok (nm := nm) hi h1 _ e _ hF
    have hwrap : IntKind.i64.wrap m = m := by
      unfold lim40 at h3
      exact IntWalk.i64_in _ (by omega)
    have hrun : (Instr.makeSlice t (.int .i64 m) (.int .i64 m)).run P w = .ok (.slice (some ⟨w.heap.size, 0, none⟩) m.toNat m.toNat) (w.alloc (.cells ((Array.range (m.toNat * z.cells.size)).map (z.cells[· % z.cells.size]!)) e)) := by
      unfold lim40 at h3
      have hb : ¬ (281474976710656 : Int) < (i.bytes : Int) * m := by
        have h1 : (i.bytes : Int) ≤ 120 := by rw [q4]; omega
        have h2 : (i.bytes : Int) * m ≤ 120 * 1099511627776 := Int.mul_le_mul h1 (by omega) (by omega) (by omega)
        omega
      have hnn : ¬ m < 0 := by omega
      by_cases hz0 : m.toNat * i.size = 0
      · have hm0 : m.toNat = 0 := by
          rcases Nat.mul_eq_zero.1 hz0 with h | h
          · exact h
          · omega
        have hm : m = 0 := by omega
        subst hm
        have hr0 : Array.range 0 = #[] := rfl
        simp [Instr.makeSlice, run_underlying hu, asInt, asIntOf, typeInfo, q1, hwrap, sizeOf, newRow, hr0]
      · simp [Instr.makeSlice, run_underlying hu, asInt, asIntOf, typeInfo, q1, q2, hwrap, sizeOf, newRow, hb, hnn, zeroValue, q3, q5]
        intro hc0; rw [q3] at hz0; exact absurd hc0 hz0
    refine wp_runs (s := Instr.makeSlice t (a.eval l) (a.eval c)) hn (by simp [execOp, ho]) ⟨_, _, _, .sl nm 0 m.toNat, _, by rw [hlv, hcv]; exact hrun, hk, Or.inl ⟨_, m.toNat, upd_self _ _ _, Nat.le_refl _, ?_, rfl⟩, hI, h⟩
    simp [h8, q5]
  case h_16 t x lo hi' mx ho => exact wp_pures hn hi (s := Instr.sliceAt t (a.eval x) (lo.map a.eval) (hi'.map a.eval) (mx.map a.eval)) (by simp [execOp, ho]) (sSlice_ok hi he (ev_ok he x) h)
  case h_17 s x f ho =>
    split at h
    case h_2 => exact h.elim
    case h_1 fs n off ht hx =>
    split at h
    case h_2 => exact h.elim
    case h_1 o' sz hf =>
    obtain ⟨h1, h⟩ := h
    obtain ⟨fields, hu, hfs⟩ := tyI_struct ht
    obtain ⟨fld, g1, g2, j, g3, g4⟩ := fields_get hfs hf
    have hxv := ev_ok he x
    rw [hx] at hxv
    obtain ⟨L, hL, hxv⟩ := hxv
    refine wp_pures hn hi (s := Instr.fieldAt s (a.eval x) f) (by simp [execOp, ho]) (.mk (.ptr n (off + o')) (c := .pointer (some ⟨L.blk, L.off + (off + o'), none⟩)) ?_ ⟨L, hL, rfl⟩ h)
    simp [Instr.fieldAt, run_underlying hu, g1, hxv, Instr.sureAddr, fieldPlace, sizeOf, typeInfo, g3, g4, h1, g2, add_loc, Nat.add_assoc]
  case h_18 t x i ho =>
    split at h
    case h_2 => exact h.elim
    case h_1 e n off len k j ht hx hj =>
    obtain ⟨⟨h0, h1, h2⟩, h⟩ := h
    have hxv := ev_ok he x
    have hjv := ev_ok he i
    rw [hx] at hxv
    rw [hj] at hjv
    have hjv : a.eval i = .int k j := hjv
    have hu := tyI_slice ht
    obtain ⟨ti, d, g1, _, g3⟩ := tyI_pos h0
    have g2 : ti.size = (tyI P e).sz := by rw [g3]; rfl
    rcases hxv with ⟨L, c, q1, q2, q3, hxv⟩ | ⟨q1, _⟩
    case inr => omega
    refine wp_pures hn hi (s := Instr.indexAt t (a.eval x) (a.eval i)) (by simp [execOp, ho]) (.mk (.ptr n (off + j.toNat * (tyI P e).sz)) (c := .pointer (some ⟨L.blk, L.off + (off + j.toNat * (tyI P e).sz), none⟩)) ?_ ⟨L, q1, rfl⟩ h)
    simp [Instr.indexAt, asIntOf, run_underlying hu, hxv, hjv, h1, h2, sizeOf, typeInfo, g1, g2, add_loc, Nat.add_assoc]
  case h_19 t x i ho =>
    split at h
    case h_2 => exact h.elim
    case h_1 s k j ht hx hj =>
    obtain ⟨⟨h1, h2⟩, h⟩ := h
    have hxv := ev_ok he x
    have hjv := ev_ok he i
    rw [hx] at hxv
    rw [hj] at hjv
    have hjv : a.eval i = .int k j := hjv
    have hxv : a.eval x = .string s := hxv
    have hu := tyI_str ht
    refine wp_pures hn hi (s := Instr.index t (a.eval x) (a.eval i)) (by simp [execOp, ho]) (.int h ?_)
    have hlt : j.toNat < s.size := by omega
    have hget : s[j.toNat]? = some (s.data.getD j.toNat 0) := by
      rw [getElem?_pos s j.toNat hlt]
      have : j.toNat < s.data.size := hlt
      rw [Array.getD, dif_pos this]
      rfl
    simp [Instr.index, asIntOf, run_underlying hu, hxv, hjv, h1, hget]
  case h_20 t i ho =>
    have htv := ev_ok he t
    split at h
    case h_2 => exact h.elim
    case h_1 vs hvs =>
    rw [hvs] at htv
    obtain ⟨arr, htv, hF⟩ := htv
    split at h
    case h_2 => exact h.elim
    case h_1 v hv =>
    obtain ⟨h1, h⟩ := h
    obtain ⟨c, hcv, hr⟩ := hF.get hv
    refine wp_pures hn hi (s := Instr.extract (a.eval t) i) (by simp [execOp, ho]) (.mk v (c := c) ?_ hr.vr h)
    rw [htv]
    simp at hcv
    simp [Instr.extract, hcv]
  case h_21 c ho => exact call_sound hc he hi ho h hn
  case h_22 t x f ho =>
    have hxv := ev_ok he x
    split at h
    case h_2 => exact h.elim
    case h_1 o' cs hf hx =>
    rw [hx] at hxv
    obtain ⟨arr, hxv, hF⟩ := hxv
    split at h
    case h_2 => exact h.elim
    case h_1 v hv =>
    obtain ⟨h1, h⟩ := h
    obtain ⟨c, hcv, hr⟩ := hF.get hv
    unfold fldI at hf
    split at hf
    case h_2 => cases hf
    case h_1 fields hu =>
    split at hf
    case h_2 => cases hf
    case h_1 fl hfl =>
    split at hf
    case isFalse => cases hf
    case isTrue hag =>
    cases hf
    obtain ⟨ti, d, g1, g2, g3⟩ := tyI_pos hag.2
    have hag1 := hag.1
    rw [g3] at hag1
    clear g3
    refine wp_pures hn hi (s := Instr.field t (a.eval x) f) (by simp [execOp, ho]) (.mk v (c := c) ?_ (CR.va' hr).vr h)
    rw [hxv]
    have hcv : arr[fl.offset]? = some c := by simpa using hcv
    simp [Instr.field, run_underlying hu, hfl, asAgg, part, isAgg, run_underlying g2]
    cases d <;> simp [mkTI] at hag1 ⊢ <;> simp [hcv]
  case h_23 t ho =>
    obtain ⟨⟨h1, h2⟩, h⟩ := h
    refine wp_runs (s := Instr.makeMap t none) hn (by simp [execOp, ho]) ⟨.map (some w.heap.size), _, _, .mapv nm, _, ?_, Keeps.upd _ (hi.dom nm h2), ⟨_, upd_self _ _ _, rfl⟩, hi.mapNew h2, h⟩
    simp [Instr.makeMap]
  case h_24 t x i ho =>
    have hxv := ev_ok he x
    have hiv := ev_ok he i
    split at h
    case h_2 => exact h.elim
    case h_1 n s hx hs =>
    rw [hx] at hxv
    rw [hs] at hiv
    have hiv : a.eval i = .string s := hiv
    split at h
    case h_2 => exact h.elim
    case h_1 es hes =>
    obtain ⟨h1, h⟩ := h
    refine wp_pures hn hi (s := Instr.lookup t (a.eval x) (a.eval i) false) (by simp [execOp, ho]) (.bool h ?_)
    rw [hiv]
    exact run_lookup_mp h1 hi hes hxv s
  case h_25 t m k x ho =>
    have hmv := ev_ok he m
    have hkv := ev_ok he k
    have hxv := ev_ok he x
    split at h
    case h_2 => exact h.elim
    case h_1 n s b hm hk hx =>
    rw [hm] at hmv
    rw [hk] at hkv
    rw [hx] at hxv
    have hkv : a.eval k = .string s := hkv
    have hxv : a.eval x = .bool b := hxv
    split at h
    case h_2 => exact h.elim
    case h_1 es hes =>
    obtain ⟨h1, h⟩ := h
    obtain ⟨w', r1, r2⟩ := run_update_mp h1 hi hes hmv s b
    unfold Oper.wp
    simp only [execOp, ho, hkv, hxv, Sem.run_bind, r1, Result.andThen_ok, Sem.run_pure, Oper.upon]
    exact hn ν (.tup []) undef _ w' (.refl ν) ⟨#[], rfl, .nil⟩ r2 h
  case h_26 t m k x ho =>
    have hmv := ev_ok he m
    have hkv := ev_ok he k
    have hxv := ev_ok he x
    split at h
    case h_2 => exact h.elim
    case h_1 n s b hm hk hx =>
    rw [hm] at hmv
    rw [hk] at hkv
    rw [hx] at hxv
    have hkv : a.eval k = .string s := hkv
    have hxv : a.eval x = .bool b := hxv
    split at h
    case h_2 => exact h.elim
    case h_1 es hes =>
    obtain ⟨h1, h⟩ := h
    obtain ⟨w', r1, r2⟩ := run_update_mp h1 hi hes hmv s b
    unfold Oper.wp
    simp only [execOp, ho, hkv, hxv, Sem.run_bind, r1, Result.andThen_ok, Sem.run_pure, Oper.upon]
    exact hn ν (.tup []) undef _ w' (.refl ν) ⟨#[], rfl, .nil⟩ r2 h
  case h_27 => exact h.elim

end
end Go.Proofs.YtbobhbhgomkgpaaGreatDoor.S

/- The symbolic heap: regions in their text's order, and code, told by a stack of what is left to do. Own work of this claim. -/
namespace Go.Proofs.YtbobhbhgomkgpaaGreatDoor.S
set_option linter.all false
open Go

theorem EnvRel.put {ν : Nm} {env : Env} {a : Act} (h : EnvRel ν env a.tmps) {d : Option Tmp} (hd : ∀ t, d = some t → t < a.tmps.size) {v : AV} {c : Value} (hv : VR ν v c) : EnvRel ν (S.put env d v) (a.put d c).tmps := by
  cases d with
  | none => exact h
  | some t =>
    have ht := hd t rfl
    intro s
    simp only [S.put, Env.get, aget_aset, Act.put]
    by_cases e : t = s
    · subst e
      simp [Array.getD, ht]
      exact hv
    · rw [if_neg e]
      have := h s
      simp only [Env.get] at this
      simpa [Array.getD_eq_getD_getElem?, Array.getElem?_setIfInBounds, e] using this

theorem aget_putc (env : Env) (d : Option Tmp) (v : AV) (t : Nat) : aget (putc env d v) t = aget (put env d v) t := by
  cases d with
  | none => rfl
  | some d => simp only [putc, put, aget_aset, aget]
theorem EnvRel.putc {ν : Nm} {env : Env} {a : Act} (h : EnvRel ν env a.tmps) {d : Option Tmp} (hd : ∀ t, d = some t → t < a.tmps.size) {v : AV} {c : Value} (hv : VR ν v c) : EnvRel ν (S.putc env d v) (a.put d c).tmps := by
  intro t
  have := h.put hd hv t
  unfold Env.get at this ⊢
  rw [aget_putc]; exact this

theorem gA_ok {ν : Nm} {env : Env} {a : Act} {ops : Array Oper} (h : EnvRel ν env a.tmps) (hd : ∀ o ∈ ops.toList, ∀ t, o.dst = some t → t < a.tmps.size) {o : Oper} {g : Bool} (hg : gA ops.toList env o = some g) :
    Region.wanted o (yielded ops a.tmps) = g := by
  unfold gA at hg
  unfold Region.wanted
  split at hg
  · rename_i hgu; rw [hgu]; simpa using hg
  · rename_i j want hgu
    rw [hgu]
    simp only
    split at hg
    · rename_i d hj
      have hlt : d < a.tmps.size := by
        cases ho : ops.toList[j]? with
        | none => rw [ho] at hj; cases hj
        | some oj => rw [ho] at hj; exact hd oj (List.mem_of_getElem? ho) d hj
      have hv := h d
      have hj' : (ops[j]?).bind (·.dst) = some d := by simpa using hj
      have hget : a.tmps[d]? = some (a.tmps.getD d undef) := by simp [Array.getD, hlt]
      split at hg
      · rename_i b hb
        rw [hb] at hv
        have hv : a.tmps.getD d undef = .bool b := hv
        unfold yielded
        rw [hj', Option.bind_some, hget, hv]
        simpa using hg
      · rename_i hb
        rw [hb] at hv
        obtain ⟨arr, hv, _⟩ := hv
        unfold yielded
        rw [hj', Option.bind_some, hget, hv]
        simpa using hg
      · cases hg
    · cases hg

section
variable {P : Program} {G : Nat → Prop} {hp : HP} {nt : Nat}

def dstOk (nt : Nat) (ops : Array Oper) : Bool := ops.toList.all fun o => match o.dst with | some d => d < nt | none => true
theorem dstOk_mem {ops : Array Oper} (h : dstOk nt ops = true) : ∀ o ∈ ops.toList, ∀ t, o.dst = some t → t < nt := by
  intro o ho t ht
  have := List.all_eq_true.1 h o ho
  rw [ht] at this
  simpa using this

theorem reg_sound {call : CallT} (hc : CallOkH P call G hp) {ops : Array Oper} (hd : dstOk nt ops = true) {id : Nat} {K : Env → Heap → Prop} {Q : Exit → Act → World → Prop}
    (hQ : ∀ ν env H a w, St G hp nt ν env H a w → K env H → Q .normal a w) :
    ∀ (os : List Oper) (i : Nat) (ν : Nm) (env : Env) (H : Heap) (a : Act) (w : World), ops.toList.drop i = os → St G hp nt ν env H a w → reg P call ops.toList id i os env H K → wpOps P ops Q (List.range' i os.length) a w
  | [], i, ν, env, H, a, w, _, st, h => hQ _ _ _ _ _ st h
  | o :: os, i, ν, env, H, a, w, hos, st, h => by
    have hi : ops[i]? = some o := by
      have := congrArg List.head? hos
      simpa [List.head?_drop] using this
    have hmem : o ∈ ops.toList := List.mem_of_getElem? (i := i) (by simpa using hi)
    have hos' : ops.toList.drop (i + 1) = os := by
      rw [← List.tail_drop, hos]; rfl
    have hsz : ∀ o ∈ ops.toList, ∀ t, o.dst = some t → t < a.tmps.size := by rw [st.size]; exact dstOk_mem hd
    simp only [reg] at h
    replace h : ∃ g, gA ops.toList env o = some g ∧ (g = true → stp P call (nmOf id i) o env H fun v H' => reg P call ops.toList id (i + 1) os (S.putc env o.dst v) H' K) ∧
          (g = false → reg P call ops.toList id (i + 1) os (S.putc env o.dst (.tup [])) H K) := by
      split at h
      · rename_i hg
        exact ⟨true, by simp [gA, hg], fun _ => h, by simp⟩
      · split at h
        · rename_i g hg
          exact ⟨g, hg, h⟩
        · exact h.elim
    obtain ⟨g, hg, h⟩ := h
    · skip
      have hw := gA_ok st.env hsz hg
      simp only [List.length_cons, List.range'_succ, wpOps, hi]
      rw [hw]
      cases g with
      | true =>
        refine Or.inl ?_
        refine stp_sound hc st.env st.inv (h.1 rfl) ?_
        intro ν' v c H' w' k1 k2 k3 k4
        refine reg_sound hc hd hQ os (i + 1) ν' _ H' _ w' hos' ⟨?_, ?_, (st.env.keeps k1).putc (hsz o hmem) k2, k3⟩ k4
        · cases ho : o.dst <;> exact st.defers
        · cases ho : o.dst <;> simp [Act.put, st.size]
      | false =>
        refine reg_sound hc hd hQ os (i + 1) ν _ H _ w hos' ⟨?_, ?_, st.env.putc (hsz o hmem) (v := .tup []) (c := undef) ⟨#[], rfl, .nil⟩, st.inv⟩ (h.2 rfl)
        · cases ho : o.dst <;> exact st.defers
        · cases ho : o.dst <;> simp [Act.put, st.size]

/-! Code -/
inductive It where
  | code (c : Code)
  | blk (id : Nat)
  | back (J : Env → Heap → Prop)
  | bac (J : (Nat → Prop) → HP → Env → Heap → Prop)
def codeOk (nt : Nat) : Code → Bool
  | .region _ ops _ => dstOk nt ops
  | .seq a b => codeOk nt a && codeOk nt b
  | .cond _ a b => codeOk nt a && codeOk nt b
  | .block _ a => codeOk nt a
  | .loop a => codeOk nt a
  | .skip | .exit _ | .ret => true
  | _ => false
def itOk (nt : Nat) : It → Prop
  | .code c => codeOk nt c = true
  | _ => True
def conc (G : Nat → Prop) (hp : HP) (nt : Nat) (J : Env → Heap → Prop) (a : Act) (w : World) : Prop := ∃ ν env H, J env H ∧ St G hp nt ν env H a w
/-- More memory stays, as it is now. -/
structure Ext (G : Nat → Prop) (hp : HP) (G' : Nat → Prop) (hp' : HP) : Prop where
  sub : ∀ b, G b → G' b
  keep : ∀ b, G b → hp'.a[b]? = hp.a[b]?
  B : hp'.B = hp.B
  νb : hp'.νb = hp.νb
  out : SameOut hp.wb hp'.wb
theorem Ext.refl (G : Nat → Prop) (hp : HP) : Ext G hp G hp := ⟨fun _ h => h, fun _ _ => rfl, rfl, rfl, ⟨rfl, rfl, rfl⟩⟩
theorem Ext.trans {G G' G'' : Nat → Prop} {hp hp' hp'' : HP} (h : Ext G hp G' hp') (k : Ext G' hp' G'' hp'') : Ext G hp G'' hp'' :=
  ⟨fun b hb => k.sub b (h.sub b hb), fun b hb => (k.keep b (h.sub b hb)).trans (h.keep b hb), k.B.trans h.B, k.νb.trans h.νb,
   ⟨k.out.1.trans h.out.1, k.out.2.1.trans h.out.2.1, k.out.2.2.trans h.out.2.2⟩⟩
theorem Ext.inv {G G' : Nat → Prop} {hp hp' : HP} {ν : Nm} {H : Heap} {w : World} (x : Ext G hp G' hp') (h : Inv G' hp' ν H w) : Inv G hp ν H w where
  er := h.er
  inj := h.inj
  dom := h.dom
  gfr b hb := ⟨(h.gfr b (x.sub b hb)).1.trans (x.keep b hb), (h.gfr b (x.sub b hb)).2⟩
  nb n hn := by
    have := h.nb n (by rw [x.B]; exact hn)
    rw [x.νb] at this
    exact this
  own n e L h1 h2 h3 h4 := h.own n e L h1 h2 h3 (x.sub _ h4)
  fx := ⟨h.fx.1.trans x.out.1, h.fx.2.1.trans x.out.2.1, h.fx.2.2.trans x.out.2.2⟩
theorem Ext.st {G G' : Nat → Prop} {hp hp' : HP} {nt : Nat} {ν : Nm} {env : Env} {H : Heap} {a : Act} {w : World} (x : Ext G hp G' hp') (h : St G' hp' nt ν env H a w) : St G hp nt ν env H a w :=
  ⟨h.defers, h.size, h.env, x.inv h.inv⟩
def concX (G : Nat → Prop) (hp : HP) (nt : Nat) (J : (Nat → Prop) → HP → Env → Heap → Prop) (a : Act) (w : World) : Prop :=
  ∃ G' hp' ν env H, Ext G hp G' hp' ∧ J G' hp' env H ∧ St G' hp' nt ν env H a w
def semS (P : Program) (G : Nat → Prop) (hp : HP) (nt : Nat) (R : Env → Heap → Prop) : List It → Exit → Act → World → Prop
  | [] => fun e a w => (e = .normal ∨ e = .ret) ∧ conc G hp nt R a w
  | .code c :: ks => Exit.then (fun a w => c.wp P (semS P G hp nt R ks) a w) (semS P G hp nt R ks)
  | .blk id :: ks => Exit.inBlock id (semS P G hp nt R ks)
  | .back J :: ks => Exit.then (conc G hp nt J) (semS P G hp nt R ks)
  | .bac J :: ks => Exit.then (concX G hp nt J) (semS P G hp nt R ks)
theorem semS_mono {P : Program} {G G' : Nat → Prop} {hp hp' : HP} {nt : Nat} {R : Env → Heap → Prop} (x : Ext G hp G' hp') : ∀ (ks : List It) (e : Exit) (a : Act) (w : World), semS P G' hp' nt R ks e a w → semS P G hp nt R ks e a w
  | [], _, _, _, h => by obtain ⟨h1, ν, env, H, h2, h3⟩ := h; exact ⟨h1, ν, env, H, h2, x.st h3⟩
  | .code c :: ks, e, a, w, h => by
    cases e <;> simp only [semS, Exit.then] at h ⊢ <;> first | exact semS_mono x ks _ a w h | exact wp_mono h fun e a w => semS_mono x ks e a w
  | .blk id :: ks, e, a, w, h => by
    cases e <;> simp only [semS, Exit.inBlock] at h ⊢ <;> first | exact semS_mono x ks _ a w h | skip
    split at h
    · rename_i q; rw [if_pos q]; exact semS_mono x ks _ a w h
    · rename_i q; rw [if_neg q]; exact semS_mono x ks _ a w h
  | .back J :: ks, e, a, w, h => by
    cases e <;> simp only [semS, Exit.then] at h ⊢ <;> first | exact semS_mono x ks _ a w h | skip
    obtain ⟨ν, env, H, h2, h3⟩ := h
    exact ⟨ν, env, H, h2, x.st h3⟩
  | .bac J :: ks, e, a, w, h => by
    cases e <;> simp only [semS, Exit.then] at h ⊢ <;> first | exact semS_mono x ks _ a w h | skip
    obtain ⟨G2, hp2, ν, env, H, h1, h2, h3⟩ := h
    exact ⟨G2, hp2, ν, env, H, x.trans h1, h2, h3⟩
/-- What is known of the memory that stays. -/
abbrev Cx := (Nat → Prop) → HP → Prop
def Cx0 : Cx := fun _ _ => True
/-- From this state on, what is left to do comes to R. -/
def W (D : Cx) (P : Program) (nt : Nat) (ks : List It) (env : Env) (H : Heap) (R : Env → Heap → Prop) : Prop :=
  (∀ k ∈ ks, itOk nt k) → ∀ G (hp : HP), (∀ n, hp.B n → n < 100) → D G hp → ∀ ν a w, St G hp nt ν env H a w → semS P G hp nt R ks .normal a w

variable {D : Cx} {ks : List It} {env : Env} {H : Heap} {R : Env → Heap → Prop}

theorem W_seq {x y : Code} (h : W D P nt (.code x :: .code y :: ks) env H R) : W D P nt (.code (.seq x y) :: ks) env H R := by
  intro hk G hp hB hD ν a w st
  have h0 : codeOk nt (.seq x y) = true := hk (.code (.seq x y)) (by simp)
  simp only [codeOk, Bool.and_eq_true] at h0
  have := h (by
    intro k hk'
    simp only [List.mem_cons] at hk'
    rcases hk' with rfl | rfl | hk'
    · exact h0.1
    · exact h0.2
    · exact hk _ (by simp [hk'])) G hp hB hD ν a w st
  exact wp_seq this
theorem W_skip (h : W D P nt ks env H R) : W D P nt (.code .skip :: ks) env H R := fun hk G hp hB hD ν a w st => wp_skip (h (fun k hk' => hk k (by simp [hk'])) G hp hB hD ν a w st)
theorem W_block {id : Nat} {c : Code} (h : W D P nt (.code c :: .blk id :: ks) env H R) : W D P nt (.code (.block id c) :: ks) env H R := by
  intro hk G hp hB hD ν a w st
  have h0 : codeOk nt (.block id c) = true := hk (.code (.block id c)) (by simp)
  refine wp_block (wp_mono (h ?_ G hp hB hD ν a w st) ?_)
  · intro k hk'
    simp only [List.mem_cons] at hk'
    rcases hk' with rfl | rfl | hk'
    · exact h0
    · trivial
    · exact hk _ (by simp [hk'])
  · intro e a w he; exact he
theorem W_pop {id : Nat} (h : W D P nt ks env H R) : W D P nt (.blk id :: ks) env H R := fun hk G hp hB hD ν a w st => h (fun k hk' => hk k (by simp [hk'])) G hp hB hD ν a w st
theorem W_back {J : Env → Heap → Prop} (h : J env H) : W D P nt (.back J :: ks) env H R := fun _ _ _ _ _ ν _ _ st => ⟨ν, env, H, h, st⟩
theorem W_bac {J : (Nat → Prop) → HP → Env → Heap → Prop} (h : ∀ G hp, D G hp → J G hp env H) : W D P nt (.bac J :: ks) env H R := fun _ G hp _ hD ν _ _ st => ⟨G, hp, ν, env, H, .refl G hp, h G hp hD, st⟩
/-- Less is known. -/
theorem W_cx {D' : Cx} (hd : ∀ G hp, D G hp → D' G hp) (h : W D' P nt ks env H R) : W D P nt ks env H R := fun hk G hp hB hD ν a w st => h hk G hp hB (hd G hp hD) ν a w st
theorem W_cond {c : Operand} {x y : Code} {b : Bool} (hb : ev env c = .bool b) (h1 : b = true → W D P nt (.code x :: ks) env H R) (h2 : b = false → W D P nt (.code y :: ks) env H R) :
    W D P nt (.code (.cond c x y) :: ks) env H R := by
  intro hk G hp hB hD ν a w st
  have h0 : codeOk nt (.cond c x y) = true := hk (.code (.cond c x y)) (by simp)
  simp only [codeOk, Bool.and_eq_true] at h0
  have hc := ev_ok st.env c
  rw [hb] at hc
  have hc : a.eval c = .bool b := hc
  have hks : ∀ k ∈ ks, itOk nt k := fun k hk' => hk k (by simp [hk'])
  refine wp_cond_split hc (fun e => ?_) (fun e => ?_)
  · exact h1 e (by intro k hk'; simp only [List.mem_cons] at hk'; rcases hk' with rfl | hk'; exact h0.1; exact hks k hk') G hp hB hD ν a w st
  · exact h2 e (by intro k hk'; simp only [List.mem_cons] at hk'; rcases hk' with rfl | hk'; exact h0.2; exact hks k hk') G hp hB hD ν a w st
/-- Where an exit leads. -/
def popTo (id : Nat) : List It → Option (List It)
  | [] => none
  | .blk id' :: ks => if id = id' then some ks else popTo id ks
  | _ :: ks => popTo id ks
theorem popTo_sem {id : Nat} {ks' : List It} {a : Act} {w : World} : ∀ (ks : List It), popTo id ks = some ks' → semS P G hp nt R ks' .normal a w → semS P G hp nt R ks (.exit id) a w
  | [], h, _ => by simp [popTo] at h
  | .blk id' :: ks, h, hs => by
    simp only [popTo] at h
    simp only [semS, Exit.inBlock]
    split at h
    · rename_i e; cases h; rw [if_pos e]; exact hs
    · rename_i e; rw [if_neg e]; exact popTo_sem ks h hs
  | .code c :: ks, h, hs => by simp only [semS, Exit.then]; exact popTo_sem ks h hs
  | .back J :: ks, h, hs => by simp only [semS, Exit.then]; exact popTo_sem ks h hs
  | .bac J :: ks, h, hs => by simp only [semS, Exit.then]; exact popTo_sem ks h hs
theorem popTo_ok {id : Nat} {ks' : List It} : ∀ (ks : List It), popTo id ks = some ks' → (∀ k ∈ ks, itOk nt k) → ∀ k ∈ ks', itOk nt k
  | [], h, _ => by simp [popTo] at h
  | .blk id' :: ks, h, hk => by
    simp only [popTo] at h
    split at h
    · cases h; exact fun k hk' => hk k (by simp [hk'])
    · exact popTo_ok ks h fun k hk' => hk k (by simp [hk'])
  | .code c :: ks, h, hk => popTo_ok ks h fun k hk' => hk k (by simp [hk'])
  | .back J :: ks, h, hk => popTo_ok ks h fun k hk' => hk k (by simp [hk'])
  | .bac J :: ks, h, hk => popTo_ok ks h fun k hk' => hk k (by simp [hk'])
theorem W_exit {id : Nat} {ks' : List It} (hp' : popTo id ks = some ks') (h : W D P nt ks' env H R) : W D P nt (.code (.exit id) :: ks) env H R := by
  intro hk G hp hB hD ν a w st
  have hks : ∀ k ∈ ks, itOk nt k := fun k hk' => hk k (by simp [hk'])
  exact wp_exit (popTo_sem ks hp' (h (popTo_ok ks hp' hks) G hp hB hD ν a w st))
theorem ret_sem {a : Act} {w : World} : ∀ (ks : List It), conc G hp nt R a w → semS P G hp nt R ks .ret a w
  | [], h => ⟨.inr rfl, h⟩
  | .blk _ :: ks, h => ret_sem ks h
  | .code _ :: ks, h => ret_sem ks h
  | .back _ :: ks, h => ret_sem ks h
  | .bac _ :: ks, h => ret_sem ks h
theorem W_ret (h : R env H) : W D P nt (.code .ret :: ks) env H R := fun _ _ _ _ _ ν _ _ st => wp_ret (ret_sem ks ⟨ν, env, H, h, st⟩)
theorem W_end (h : R env H) : W D P nt [] env H R := fun _ _ _ _ _ ν _ _ st => ⟨.inl rfl, ν, env, H, h, st⟩

theorem wp_loop_ghost {σ : Type} {c : Code} {Q : Exit → Act → World → Prop} {a : Act} {w : World} (I : σ → Act → World → Prop) (μ : σ → Nat) (s : σ) (h₀ : I s a w)
    (round : ∀ s a w, I s a w → c.wp P (Exit.then (fun a' w' => ∃ s', I s' a' w' ∧ μ s' < μ s) Q) a w) : (Code.loop c).wp P Q a w := by
  intro b k cs
  have key : ∀ n s a w, μ s = n → I s a w →
      ∃ e a' w', Q e a' w' ∧ Arrives P (lone (b.at a (.code c :: .inLoop c :: k)) cs w) b k cs e a' w' := by
    intro n
    induction n using Nat.strongRecOn with
    | _ n ih =>
      intro s a w hn hI
      obtain ⟨e, a₁, w₁, hq, harr⟩ := round s a w hI b (.inLoop c :: k) cs
      cases e with
      | normal =>
        obtain ⟨s', hI₁, hlt⟩ := hq
        obtain ⟨e₂, a₂, w₂, hq₂, harr₂⟩ := ih (μ s') (hn ▸ hlt) s' a₁ w₁ rfl hI₁
        exact ⟨e₂, a₂, w₂, hq₂, .of_steps (Steps.trans harr (.one step_inLoop)) harr₂⟩
      | exit id => exact ⟨_, a₁, w₁, hq, .pass (x := .inLoop c) rfl (fun _ _ => .inl (by simp)) harr⟩
      | goto l => exact ⟨_, a₁, w₁, hq, .pass (x := .inLoop c) rfl (fun _ _ => .inl (by simp)) harr⟩
      | ret => exact ⟨_, a₁, w₁, hq, .pass (x := .inLoop c) rfl (fun _ _ => .inl (by simp)) harr⟩
      | panic ch => exact ⟨_, a₁, w₁, hq, .pass (x := .inLoop c) rfl (fun _ _ => .inl (by simp)) harr⟩
      | outgrown => exact ⟨_, a₁, w₁, hq, .pass (x := .inLoop c) rfl (fun _ _ => .inl (by simp)) harr⟩
  obtain ⟨e, a', w', hq, harr⟩ := key _ s a w rfl h₀
  exact ⟨e, a', w', hq, .of_steps (.one step_loop) harr⟩

/-- A loop in whose rounds more memory comes to stay. -/
theorem W_lpC {c : Code} {σ : Type} (Dl : σ → Cx) (E : σ → Env) (Hs : σ → Heap) (Le : Env → Env → Prop) (hLe : ∀ {ν : Nm} {tmps : Array Value} {e e' : Env}, EnvRel ν e tmps → Le e' e → EnvRel ν e' tmps)
    (m : σ → Nat) (s0 : σ) (h0 : ∀ G hp, D G hp → Dl s0 G hp)
    (h : ∀ s, W (Dl s) P nt (.code c :: .bac (fun G hp env' H' => ∃ s', m s' < m s ∧ Dl s' G hp ∧ Le (E s') env' ∧ H' = Hs s') :: ks) (E s) (Hs s) R) (he : Le (E s0) env) (hh : H = Hs s0) : W D P nt (.code (.loop c) :: ks) env H R := by
  subst hh
  intro hk G hp hB hD ν a w st
  have hc : codeOk nt c = true := hk (.code (.loop c)) (by simp)
  have hks : ∀ k ∈ ks, itOk nt k := fun k hk' => hk k (by simp [hk'])
  refine wp_loop_ghost (σ := (Nat → Prop) × HP × Nm × σ) (fun s a w => Ext G hp s.1 s.2.1 ∧ Dl s.2.2.2 s.1 s.2.1 ∧ St s.1 s.2.1 nt s.2.2.1 (E s.2.2.2) (Hs s.2.2.2) a w) (fun s => m s.2.2.2) (G, hp, ν, s0)
    ⟨.refl G hp, h0 G hp hD, st.defers, st.size, hLe st.env he, st.inv⟩ ?_
  rintro ⟨G1, hp1, ν, s⟩ a w ⟨x, hD1, st⟩
  dsimp only at x hD1 st ⊢
  refine wp_mono (h s ?_ G1 hp1 (fun n hn => hB n (by rw [← x.B]; exact hn)) hD1 ν a w st) ?_
  · intro k hk'
    simp only [List.mem_cons] at hk'
    rcases hk' with rfl | rfl | hk'
    · exact hc
    · trivial
    · exact hks k hk'
  · intro e a w he
    cases e <;> first | exact semS_mono x ks _ a w he | skip
    obtain ⟨G2, hp2, ν', env', H', x2, ⟨s', h1, h2, h3, rfl⟩, st'⟩ := he
    exact ⟨(G2, hp2, ν', s'), ⟨x.trans x2, h2, st'.defers, st'.size, hLe st'.env h3, st'.inv⟩, h1⟩
theorem W_reg {call : CallT} (hc : ∀ G hp, D G hp → CallOkH P call G hp) {id : Nat} {ops : Array Oper} (h : ∀ K : Env → Heap → Prop, (∀ env H, W D P nt ks env H R → K env H) → reg P call ops.toList id 0 ops.toList env H K) :
    W D P nt (.code (.region id ops false) :: ks) env H R := by
  intro hk G hp hB hD ν a w st
  have hd : dstOk nt ops = true := hk (.code (.region id ops false)) (by simp)
  have hks : ∀ k ∈ ks, itOk nt k := fun k hk' => hk k (by simp [hk'])
  have := reg_sound (hc G hp hD) hd (id := id) (K := fun env H => W D P nt ks env H R) (Q := semS P G hp nt R ks) (fun ν env H a w st hW => hW hks G hp hB hD ν a w st) ops.toList 0 ν env H a w (by simp) st (h _ fun _ _ h => h)
  refine wp_region ?_
  rw [List.range_eq_range']
  simpa using this

end
end Go.Proofs.YtbobhbhgomkgpaaGreatDoor.S

/- The symbolic heap: contracts of functions, and the call of a function by its contract. Own work of this claim. -/
namespace Go.Proofs.YtbobhbhgomkgpaaGreatDoor.S
set_option linter.all false
open Go

/-! Names handed over -/
abbrev Mu := Nat → Option (Nat × Nat)
def renC (μ : Mu) : AV → AV
  | .ptr n o => match μ n with | some (m, o') => .ptr m (o' + o) | none => .tup []
  | .sl n o l => match μ n with | some (m, o') => .sl m (o' + o) l | none => if l = 0 then .emp else .tup []
  | .mapv n => match μ n with | some (m, _) => .mapv m | none => .tup []
  | .fn f caps => if caps.all fun p => (μ p.1).isSome then .fn f (caps.map fun p => match μ p.1 with | some (m, o') => (m, o' + p.2) | none => p) else .tup []
  | c => c
def renA (μ : Mu) : AV → AV
  | .agg cs => .agg (cs.map (renC μ))
  | c => renC μ c
def renV (μ : Mu) : AV → AV
  | .tup vs => .tup (vs.map (renA μ))
  | c => renA μ c
def renL (μ : Mu) : LV → LV
  | .av z l => .av z (l.map (renC μ))
  | l => l
def renE (μ : Mu) : Ent → Ent
  | .c b lv => .c b (renL μ lv)
  | e => e
theorem renL_toL (μ : Mu) (lv : LV) : (renL μ lv).toL = lv.toL.map (renC μ) := by
  cases lv <;> simp [renL, LV.toL, renC, Function.comp_def]
  rename_i l
  induction l with
  | nil => rfl
  | cons a l ih => simp [opL, renC] at ih ⊢; rw [← ih]
theorem renL_z (μ : Mu) (lv : LV) : (renL μ lv).z = lv.z := by cases lv <;> rfl
theorem noN_renC (μ : Mu) (l : List AV) : (noN l).map (renC μ) = noN l := noN_fix (fun c h => by cases c <;> first | rfl | cases h) l
def shiftL (L : Loc) (o : Nat) : Loc := ⟨L.blk, L.off + o, L.lim - o, L.esz⟩
/-- From the caller's names to the callee's. -/
theorem PR.enter {μ : Mu} {ν ν0 : Nm} (h1 : ∀ i j o L, μ i = some (j, o) → ν j = some L → ν0 i = some (shiftL L o)) {n o : Nat} {v : Value} (h : CR ν (renC μ (.ptr n o)) v) : PR ν0 (n, o) v := by
  simp only [renC] at h
  split at h
  · rename_i m o' hm
    obtain ⟨L, hL, rfl⟩ := h
    exact ⟨_, h1 _ _ _ _ hm hL, by simp [shiftL, Nat.add_assoc]⟩
  · simp [CR] at h
theorem CR.enter {μ : Mu} {ν ν0 : Nm} (h1 : ∀ i j o L, μ i = some (j, o) → ν j = some L → ν0 i = some (shiftL L o)) {c : AV} {v : Value} (h : CR ν (renC μ c) v) : CR ν0 c v := by
  cases c with
  | ptr n o => exact PR.enter h1 h
  | sl n o l =>
    simp only [renC] at h
    split at h
    · rename_i m o' hm
      rcases h with ⟨L, cp, q1, q2, q3, rfl⟩ | ⟨rfl, p, rfl⟩
      · exact Or.inl ⟨_, cp, h1 _ _ _ _ hm q1, q2, by simp [shiftL]; omega, by simp [shiftL, Nat.add_assoc]⟩
      · exact Or.inr ⟨rfl, p, rfl⟩
    · split at h
      · rename_i hl
        obtain ⟨p, rfl⟩ := h
        exact Or.inr ⟨hl, p, rfl⟩
      · simp [CR] at h
  | mapv n =>
    simp only [renC] at h
    split at h
    · rename_i m o' hm
      obtain ⟨L, hL, rfl⟩ := h
      exact ⟨_, h1 _ _ _ _ hm hL, rfl⟩
    · simp [CR] at h
  | fn f caps =>
    simp only [renC] at h
    split at h
    case isFalse => simp [CR] at h
    case isTrue hall =>
    simp only [CR] at h ⊢
    obtain ⟨arr, rfl, hF⟩ := h
    refine ⟨arr, rfl, ?_⟩
    have hf' : ∀ p ∈ caps, μ p.1 ≠ none := fun p hp => by
      have := List.all_eq_true.1 hall p hp
      intro e; rw [e] at this; cases this
    clear hall
    generalize arr.toList = vs at hF
    revert vs hf'
    induction caps with
    | nil => intro hf' vs hF; cases hF; exact .nil
    | cons p caps ih =>
      intro hf' vs hF
      cases hF with
      | cons hp ht =>
        refine .cons ?_ (ih (fun q hq => hf' q (by simp [hq])) _ ht)
        have := hf' p (by simp)
        cases hm : μ p.1 with
        | none => exact absurd hm this
        | some mo =>
          obtain ⟨m, o'⟩ := mo
          simp only [hm] at hp
          obtain ⟨L, hL, rfl⟩ := hp
          exact ⟨_, h1 _ _ _ _ hm hL, by simp [shiftL, Nat.add_assoc]⟩
  | int _ _ => exact h
  | bool _ => exact h
  | str _ => exact h
  | emp => exact h
  | lit _ => exact h
  | any => exact h
  | agg _ => simp [renC, CR] at h
  | tup _ => simp [renC, CR] at h
/-- From the callee's names back to the caller's. -/
theorem CR.leave {μ : Mu} {ν1 ν' : Nm} (h1 : ∀ n L, ν1 n = some L → ∃ m o L', μ n = some (m, o) ∧ ν' m = some L' ∧ L = shiftL L' o ∧ o ≤ L'.lim) {c : AV} {v : Value} (h : CR ν1 c v) : CR ν' (renC μ c) v := by
  have hPR : ∀ n o v, PR ν1 (n, o) v → ∃ m o', μ n = some (m, o') ∧ PR ν' (m, o' + o) v := by
    rintro n o v ⟨L, hL, rfl⟩
    obtain ⟨m, o', L', e1, e2, rfl, e4⟩ := h1 _ _ hL
    exact ⟨m, o', e1, L', e2, by simp [shiftL, Nat.add_assoc]⟩
  cases c with
  | ptr n o =>
    obtain ⟨m, o', e1, e2⟩ := hPR _ _ _ h
    simp only [renC, e1]; exact e2
  | sl n o l =>
    rcases h with ⟨L, cp, q1, q2, q3, rfl⟩ | ⟨rfl, p, rfl⟩
    · obtain ⟨m, o', L', e1, e2, rfl, e4⟩ := h1 _ _ q1
      simp only [renC, e1]
      refine Or.inl ⟨L', cp, e2, q2, ?_, by simp [shiftL, Nat.add_assoc]⟩
      simp only [shiftL] at q3; omega
    · simp only [renC]
      split
      · exact Or.inr ⟨rfl, p, rfl⟩
      · simp only [if_true]; exact ⟨p, rfl⟩
  | mapv n =>
    obtain ⟨L, hL, rfl⟩ := h
    obtain ⟨m, o', L', e1, e2, rfl, e4⟩ := h1 _ _ hL
    simp only [renC, e1]; exact ⟨L', e2, rfl⟩
  | fn f caps =>
    simp only [CR] at h
    obtain ⟨arr, rfl, hF⟩ := h
    have hall : caps.all (fun p => (μ p.1).isSome) = true := by
      refine List.all_eq_true.2 fun p hp => ?_
      obtain ⟨i, hi, rfl⟩ := List.getElem_of_mem hp
      obtain ⟨b, _, hr⟩ := hF.get (List.getElem?_eq_getElem hi)
      obtain ⟨m, o', e1, _⟩ := hPR _ _ _ hr
      have e1 : μ caps[i].1 = some (m, o') := e1
      rw [e1]; rfl
    simp only [renC, hall, if_true, CR]
    refine ⟨arr, rfl, F2.map ?_ hF⟩
    rintro ⟨n, o⟩ v hp
    obtain ⟨m, o', e1, e2⟩ := hPR _ _ _ hp
    simp only [e1]; exact e2
  | int _ _ => exact h
  | bool _ => exact h
  | str _ => exact h
  | emp => exact h
  | lit _ => exact h
  | any => exact h
  | agg _ => simp [CR] at h
  | tup _ => simp [CR] at h
theorem VA.leave {μ : Mu} {ν1 ν' : Nm} (h1 : ∀ n L, ν1 n = some L → ∃ m o L', μ n = some (m, o) ∧ ν' m = some L' ∧ L = shiftL L' o ∧ o ≤ L'.lim) {c : AV} {v : Value} (h : VA ν1 c v) : VA ν' (renA μ c) v := by
  cases c with
  | agg cs => obtain ⟨arr, rfl, hF⟩ := h; exact ⟨arr, rfl, F2.map (fun _ _ h => h.leave h1) hF⟩
  | ptr n o => have := CR.leave h1 (c := .ptr n o) h; simp only [renA]; simp only [renC] at this ⊢; split at this <;> first | exact this | (simp [CR] at this)
  | sl n o l =>
    have := CR.leave h1 (c := .sl n o l) h
    simp only [renA]; simp only [renC] at this ⊢
    split at this
    · exact this
    · split at this
      · rename_i hl; rw [if_pos hl]; exact this
      · simp [CR] at this
  | mapv n => have := CR.leave h1 (c := .mapv n) h; simp only [renA]; simp only [renC] at this ⊢; split at this <;> first | exact this | (simp [CR] at this)
  | fn f caps =>
    have := CR.leave h1 (c := .fn f caps) h
    simp only [renA]; simp only [renC] at this ⊢
    split at this
    · rename_i hl; rw [if_pos hl]; exact this
    · simp [CR] at this
  | int _ _ => exact h
  | bool _ => exact h
  | str _ => exact h
  | emp => exact h
  | lit _ => exact h
  | any => exact h
  | tup _ => simp [VA, CR] at h
theorem VR.leave {μ : Mu} {ν1 ν' : Nm} (h1 : ∀ n L, ν1 n = some L → ∃ m o L', μ n = some (m, o) ∧ ν' m = some L' ∧ L = shiftL L' o ∧ o ≤ L'.lim) {c : AV} {v : Value} (h : VR ν1 c v) : VR ν' (renV μ c) v := by
  cases c with
  | tup vs => obtain ⟨arr, rfl, hF⟩ := h; exact ⟨arr, rfl, F2.map (fun _ _ h => h.leave h1) hF⟩
  | any => trivial
  | agg cs => exact VA.leave h1 (c := .agg cs) h
  | ptr n o => exact (VA.leave h1 (c := .ptr n o) h).vr
  | sl n o l => exact (VA.leave h1 (c := .sl n o l) h).vr
  | mapv n => exact (VA.leave h1 (c := .mapv n) h).vr
  | fn f caps => exact (VA.leave h1 (c := .fn f caps) h).vr
  | int _ _ => exact h
  | bool _ => exact h
  | str _ => exact h
  | emp => exact h
  | lit _ => exact h

/-! Contracts -/
def ros (H : Heap) : Heap := H.filter fun p => !p.2.isOwn
def okNames (H0 H1 : Heap) : Prop := ∀ n e, aget H1 n = some e → (e.isOwn = true ∨ e = .dead) ∧ ((∃ e0, aget H0 n = some e0 ∧ e0.isOwn = true) ∨ (100 ≤ n ∧ n < 116))
def Gof (ν : Nm) (H0 : Heap) (w : World) (b : Nat) : Prop := b < w.heap.size ∧ ∀ n e L, aget H0 n = some e → e.isOwn = true → ν n = some L → L.blk ≠ b
/-- Called with these arguments in memory that holds H0, the function returns, with a result and memory as R says. Names up to 99 are the arguments', names from 100 on are new. -/
structure FnC (C : Cx) (P : Program) (f : Nat) (H0 : Heap) (args : List AV) (R : AV → Heap → Prop) : Prop where
  enters : ∀ vs w, (callFunc f vs).run P w = .ok (.enter f vs) w
  calls : ∀ ν w (vs : Array Value), Inv (Gof ν H0 w) ⟨w, fun n => aget H0 n ≠ none, ν⟩ ν H0 w → C (Gof ν H0 w) ⟨w, fun n => aget H0 n ≠ none, ν⟩ → F2 (VR ν) args vs.toList →
    Calls P f vs w fun e w' => ∃ c r H1 ν1, e = .returned c ∧ R r H1 ∧ okNames H0 H1 ∧ VR ν1 r c ∧ (∀ n, aget H0 n ≠ none → aget (H1 ++ ros H0) n ≠ none → ν1 n = ν n) ∧ Inv (Gof ν H0 w) ⟨w, fun _ => False, ν⟩ ν1 (H1 ++ ros H0) w'

abbrev Fn := FnC Cx0
theorem Fn.mono {P : Program} {f : Nat} {H0 : Heap} {args : List AV} {R R' : AV → Heap → Prop} (h : Fn P f H0 args R) (hr : ∀ r H, R r H → R' r H) : Fn P f H0 args R' :=
  ⟨h.enters, fun ν w vs hi hC hF => (h.calls ν w vs hi hC hF).mono fun _ _ ⟨c, r, H1, ν1, a1, a2, a3⟩ => ⟨c, r, H1, ν1, a1, hr _ _ a2, a3⟩⟩

theorem VA.enter {μ : Mu} {ν ν0 : Nm} (h1 : ∀ i j o L, μ i = some (j, o) → ν j = some L → ν0 i = some (shiftL L o)) {c : AV} {v : Value} (h : VA ν (renA μ c) v) : VA ν0 c v := by
  cases c with
  | agg cs =>
    obtain ⟨arr, rfl, hF⟩ := h
    refine ⟨arr, rfl, ?_⟩
    generalize arr.toList = vs at hF
    revert vs
    induction cs with
    | nil => intro vs hF; cases hF; exact .nil
    | cons c cs ih => intro vs hF; cases hF with | cons hp ht => exact .cons (hp.enter h1) (ih _ ht)
  | ptr n o => exact CR.enter h1 (c := .ptr n o) (by simp only [renA, renC] at h ⊢; split at h <;> first | exact h | (simp [VA, CR] at h))
  | sl n o l => exact CR.enter h1 (c := .sl n o l) (by
      simp only [renA, renC] at h ⊢
      split at h
      · exact h
      · split at h
        · rename_i hl; rw [if_pos hl]; exact h
        · simp [VA, CR] at h)
  | mapv n => exact CR.enter h1 (c := .mapv n) (by simp only [renA, renC] at h ⊢; split at h <;> first | exact h | (simp [VA, CR] at h))
  | fn f caps => exact CR.enter h1 (c := .fn f caps) (by
      simp only [renA, renC] at h ⊢
      split at h
      · rename_i hl; rw [if_pos hl]; exact h
      · simp [VA, CR] at h)
  | int _ _ => exact h
  | bool _ => exact h
  | str _ => exact h
  | emp => exact h
  | lit _ => exact h
  | any => exact h
  | tup _ => simp [renA, renC, VA, CR] at h
theorem aget_append (l m : Heap) (n : Nat) : aget (l ++ m) n = match aget l n with | some e => some e | none => aget m n := by
  induction l with
  | nil => rfl
  | cons p l ih =>
    obtain ⟨k, e⟩ := p
    simp only [List.cons_append, aget]
    by_cases h : k = n
    · simp [h]
    · simp [h, ih]

end Go.Proofs.YtbobhbhgomkgpaaGreatDoor.S

/- The symbolic heap: a call by its contract is sound; a function's contract out of its code. Own work of this claim. -/
namespace Go.Proofs.YtbobhbhgomkgpaaGreatDoor.S
set_option linter.all false
open Go

/-! The call -/
/-- The k-th name that a call may make. -/
def nwK (nm k : Nat) : Nat := if k < 8 then nm + k else nm + (4000000 + (k - 8))
def mu1 (μ : List (Nat × (Nat × Nat))) (nm : Nat) : Mu := fun n => if 100 ≤ n ∧ n < 116 then some (nwK nm (n - 100), 0) else aget μ n
/-- One entry of the callee's memory, held against the caller's. -/
def match1 (μ : List (Nat × (Nat × Nat))) (H : Heap) (i : Nat) (e0 : Ent) : Prop :=
  i < 100 ∧ match aget μ i with
  | some (j, o) => match e0, aget H j with
    | .c own0 lv0, some (.c own lv) => lv0.z = lv.z ∧ renL (aget μ) lv0 = lv.view o lv0.len ∧ o + lv0.len ≤ lv.len ∧ (own0 = true → own = true ∧ o = 0 ∧ lv0.len = lv.len)
    | .mp es, some (.mp es') => es = es' ∧ o = 0
    | _, _ => False
  | none => match e0 with
    | .c _ lv0 => lv0.len = 0
    | _ => False
def matchH (μ : List (Nat × (Nat × Nat))) (H : Heap) : Heap → Prop
  | [] => True
  | (i, e) :: r => match1 μ H i e ∧ matchH μ H r
/-- No own entry is handed over under two names. -/
def apartB (μ : List (Nat × (Nat × Nat))) (H0 : Heap) : Bool :=
  H0.all fun p => !p.2.isOwn || H0.all fun q => p.1 == q.1 || match aget μ p.1, aget μ q.1 with
    | some (j, _), some (j', _) => j != j'
    | _, _ => true
def freeB (H : Heap) (nm : Nat) : Bool := H.all fun p => p.1 < nm || (nm + 8 ≤ p.1 && p.1 < nm + 4000000) || nm + 4000008 ≤ p.1
def domB (μ : List (Nat × (Nat × Nat))) (H0 : Heap) : Bool := μ.all fun p => (aget H0 p.1).isSome
def backOwn (μ : List (Nat × (Nat × Nat))) (ρ : Mu) (H1 : Heap) : Heap → Heap → Heap
  | [], H => H
  | (i, e) :: r, H => backOwn μ ρ H1 r (if e.isOwn then match aget μ i with
      | some (j, _) => aset H j (match aget H1 i with | some e => renE ρ e | none => .dead)
      | none => H
    else H)
def backNew (ρ : Mu) (nm : Nat) : Heap → Heap → Heap
  | [], H => H
  | (i, e) :: r, H => backNew ρ nm r (if 100 ≤ i ∧ i < 116 then aset H (nwK nm (i - 100)) (renE ρ e) else H)
def afterH (μ : List (Nat × (Nat × Nat))) (nm : Nat) (H H0 H1 : Heap) : Heap := backNew (mu1 μ nm) nm H1 (backOwn μ (mu1 μ nm) H1 H0 H)
def nodupB (H : Heap) : Bool := match H with
  | [] => true
  | (i, _) :: r => (r.all fun p => p.1 != i) && nodupB r

def callA (P : Program) : CallT := fun g args H nm K => ∃ (H0 : Heap) (args0 : List AV) (R : AV → Heap → Prop) (μ : List (Nat × (Nat × Nat))), Fn P g H0 args0 R ∧
  args.all AV.fits = true ∧ args = args0.map (renA (aget μ)) ∧ matchH μ H H0 ∧ apartB μ H0 = true ∧ freeB H nm = true ∧ domB μ H0 = true ∧ nodupB H0 = true ∧ 100 ≤ nm ∧
  ∀ r H1, R r H1 → nodupB H1 = true ∧ K (renV (mu1 μ nm) r) (afterH μ nm H H0 H1)

/-- What is known holds on where more memory stays. -/
def Cx.tr (C : Cx) : Prop := ∀ G hp G' hp', (∀ b, G b → G' b ∧ hp'.a[b]? = hp.a[b]?) → C G hp → C G' hp'
/-- A call by a contract that rests on what is known. -/
def callC (D : Cx) (P : Program) : CallT := fun g args H nm K => ∃ (C : Cx) (H0 : Heap) (args0 : List AV) (R : AV → Heap → Prop) (μ : List (Nat × (Nat × Nat))), FnC C P g H0 args0 R ∧ C.tr ∧ (∀ G hp, D G hp → C G hp) ∧
  args.all AV.fits = true ∧ args = args0.map (renA (aget μ)) ∧ matchH μ H H0 ∧ apartB μ H0 = true ∧ freeB H nm = true ∧ domB μ H0 = true ∧ nodupB H0 = true ∧ 100 ≤ nm ∧
  ∀ r H1, R r H1 → nodupB H1 = true ∧ K (renV (mu1 μ nm) r) (afterH μ nm H H0 H1)

theorem matchH_get {μ : List (Nat × (Nat × Nat))} {H : Heap} : ∀ {H0 : Heap}, matchH μ H H0 → ∀ i e, aget H0 i = some e → match1 μ H i e
  | [], _, _, _, h => by simp [aget] at h
  | (k, x) :: r, hm, i, e, h => by
    simp only [aget] at h
    split at h
    · rename_i hk; cases h; subst hk; exact hm.1
    · exact matchH_get hm.2 i e h
theorem mem_of_aget {β : Type} : ∀ {l : List (Nat × β)} {n : Nat} {e : β}, aget l n = some e → (n, e) ∈ l
  | [], _, _, h => by simp [aget] at h
  | (k, x) :: r, n, e, h => by
    simp only [aget] at h
    split at h
    · rename_i hk; cases h; subst hk; simp
    · exact List.mem_cons_of_mem _ (mem_of_aget h)
theorem free_get {H : Heap} {nm : Nat} (h : freeB H nm = true) {k : Nat} (hk : k < 16) : aget H (nwK nm k) = none := by
  cases hg : aget H (nwK nm k) with
  | none => rfl
  | some e =>
    have := List.all_eq_true.1 h _ (mem_of_aget hg)
    simp at this
    unfold nwK at this
    split at this <;> omega

theorem backOwn_get (μ : List (Nat × (Nat × Nat))) (ρ : Mu) (H1 : Heap) (n : Nat) : ∀ (H0 H : Heap), (∀ i e j o, (i, e) ∈ H0 → e.isOwn = true → aget μ i = some (j, o) → j ≠ n) → aget (backOwn μ ρ H1 H0 H) n = aget H n
  | [], _, _ => rfl
  | (i, e) :: r, H, h => by
    simp only [backOwn]
    rw [backOwn_get μ ρ H1 n r _ (fun i e j o hm => h i e j o (by simp [hm]))]
    split
    · rename_i ho
      split
      · rename_i j o hj
        rw [aget_aset, if_neg (h i e j o (by simp) ho hj)]
      · rfl
    · rfl
theorem backOwn_hit (μ : List (Nat × (Nat × Nat))) (ρ : Mu) (H1 : Heap) {i j o : Nat} (hj : aget μ i = some (j, o)) : ∀ (H0 H : Heap) (e0 : Ent), (i, e0) ∈ H0 → e0.isOwn = true →
    (∀ i' e' o', (i', e') ∈ H0 → e'.isOwn = true → aget μ i' = some (j, o') → i' = i) → aget (backOwn μ ρ H1 H0 H) j = some (match aget H1 i with | some e => renE ρ e | none => .dead)
  | (k, x) :: r, H, e0, hm, ho, hu => by
    simp only [backOwn]
    by_cases hr : ∃ e', (i, e') ∈ r ∧ e'.isOwn = true
    · obtain ⟨e', hr1, hr2⟩ := hr
      exact backOwn_hit μ ρ H1 hj r _ e' hr1 hr2 (fun i' e' o' hm => hu i' e' o' (by simp [hm]))
    · have hkx : k = i ∧ x = e0 := by
        simp only [List.mem_cons, Prod.mk.injEq] at hm
        rcases hm with ⟨h1, h2⟩ | hm
        · exact ⟨h1.symm, h2.symm⟩
        · exact absurd ⟨e0, hm, ho⟩ hr
      obtain ⟨rfl, rfl⟩ := hkx
      rw [backOwn_get μ ρ H1 j r _ (by
        intro i' e' j' o' hm' ho' hj' hjj
        subst hjj
        have := hu i' e' o' (by simp [hm']) ho' hj'
        subst this
        exact hr ⟨e', hm', ho'⟩)]
      rw [if_pos ho, hj]
      simp only
      rw [aget_aset, if_pos rfl]
theorem backNew_get (ρ : Mu) (nm n : Nat) : ∀ (H1 H : Heap), (∀ i e, (i, e) ∈ H1 → 100 ≤ i ∧ i < 116 → nwK nm (i - 100) ≠ n) → aget (backNew ρ nm H1 H) n = aget H n
  | [], _, _ => rfl
  | (i, e) :: r, H, h => by
    simp only [backNew]
    rw [backNew_get ρ nm n r _ (fun i e hm => h i e (by simp [hm]))]
    split
    · rename_i hi; rw [aget_aset, if_neg (h i e (by simp) hi)]
    · rfl
theorem backNew_hit (ρ : Mu) (nm : Nat) {i : Nat} (hi : 100 ≤ i ∧ i < 116) : ∀ (H1 H : Heap) (e : Ent), nodupB H1 = true → (i, e) ∈ H1 → aget (backNew ρ nm H1 H) (nwK nm (i - 100)) = some (renE ρ e)
  | (k, x) :: r, H, e, hn, hm => by
    simp only [nodupB, Bool.and_eq_true] at hn
    simp only [backNew]
    simp only [List.mem_cons, Prod.mk.injEq] at hm
    rcases hm with ⟨rfl, rfl⟩ | hm
    · rw [backNew_get ρ nm _ r _ (by
        intro i' e' hm' hi' he
        have : i' = i := by unfold nwK at he; split at he <;> split at he <;> omega
        subst this
        have := List.all_eq_true.1 hn.1 _ hm'
        simp at this)]
      rw [if_pos hi, aget_aset, if_pos rfl]
    · exact backNew_hit ρ nm hi r _ e hn.2 hm
theorem nodup_get {l : Heap} (h : nodupB l = true) : ∀ {i : Nat} {e : Ent}, (i, e) ∈ l → aget l i = some e := by
  induction l with
  | nil => intro i e hm; simp at hm
  | cons p r ih =>
    obtain ⟨k, x⟩ := p
    intro i e hm
    simp only [nodupB, Bool.and_eq_true] at h
    simp only [aget]
    simp only [List.mem_cons, Prod.mk.injEq] at hm
    rcases hm with ⟨rfl, rfl⟩ | hm
    · simp
    · split
      · rename_i hk; subst hk
        have := List.all_eq_true.1 h.1 _ hm
        simp at this
      · exact ih h.2 hm

theorem F2.mem_map {α β γ : Type} {R : β → γ → Prop} {S : α → γ → Prop} {f : α → β} (h : ∀ a b, R (f a) b → S a b) : ∀ {l : List α} {m : List γ}, F2 R (l.map f) m → F2 S l m
  | [], _, .nil => .nil
  | _ :: _, _, .cons r t => .cons (h _ _ r) (F2.mem_map h t)
theorem F2.all_imp {α β : Type} {R S : α → β → Prop} {p : α → Bool} (h : ∀ a b, p a = true → R a b → S a b) : ∀ {l : List α} {m : List β}, l.all p = true → F2 R l m → F2 S l m
  | _, _, _, .nil => .nil
  | _, _, ha, .cons r t => by
    simp only [List.all_cons, Bool.and_eq_true] at ha
    exact .cons (h _ _ ha.1 r) (F2.all_imp h ha.2 t)
theorem shift0 (L : Loc) : shiftL L 0 = L := by cases L; simp [shiftL]
theorem ER.leave {μ : Mu} {ν1 ν' : Nm} {w : World} (h1 : ∀ n L, ν1 n = some L → ∃ m o L', μ n = some (m, o) ∧ ν' m = some L' ∧ L = shiftL L' o ∧ o ≤ L'.lim) {i m : Nat} {e : Ent} (hm : ν' m = ν1 i) (h : ER ν1 w i e) : ER ν' w m (renE μ e) := by
  cases e with
  | dead => trivial
  | mp es =>
    obtain ⟨L, hL, rest⟩ := h
    exact ⟨L, by rw [hm]; exact hL, rest⟩
  | c own lv =>
    simp only [renE, ER] at h ⊢
    rw [hm]
    cases hL : ν1 i with
    | none => rw [hL] at h; simp only at h ⊢; rw [renL_toL, h]; rfl
    | some L =>
      rw [hL] at h
      simp only at h ⊢
      obtain ⟨h0, arr, T, fr, g1, g2, g3, g4, g5⟩ := h
      refine ⟨by rw [renL_z]; exact h0, arr, T, fr, g1, g2, by rw [renL_toL, List.length_map]; exact g3, ?_, g5⟩
      intro k hk
      rw [renL_toL, List.length_map] at hk
      obtain ⟨v, hv, c, hc, hr⟩ := g4 k hk
      exact ⟨v, hv, _, by rw [renL_toL, List.getElem?_map, hc]; rfl, hr.leave h1⟩
theorem isOwn_ren {μ : Mu} {e : Ent} : (renE μ e).isOwn = e.isOwn := by cases e <;> rfl
theorem live_ren {μ : Mu} {e : Ent} : (renE μ e).live = e.live := by cases e <;> rfl

/-- What stands in the caller's memory behind the call. -/
theorem afterH_cases {μ : List (Nat × (Nat × Nat))} {nm : Nat} {H H0 H1 : Heap} (hfr : freeB H nm = true) (hm : matchH μ H H0) (hap : apartB μ H0 = true) (hnd0 : nodupB H0 = true) (hnd : nodupB H1 = true) {m : Nat} {e : Ent} (h : aget (afterH μ nm H H0 H1) m = some e) :
    (∃ i e1, 100 ≤ i ∧ i < 116 ∧ m = nwK nm (i - 100) ∧ aget H1 i = some e1 ∧ e = renE (mu1 μ nm) e1) ∨
    (∃ i e0, aget H0 i = some e0 ∧ e0.isOwn = true ∧ aget μ i = some (m, 0) ∧ ((∃ e1, aget H1 i = some e1 ∧ e = renE (mu1 μ nm) e1) ∨ e = .dead)) ∨
    (aget H m = some e ∧ (∀ k, k < 16 → m ≠ nwK nm k) ∧ ∀ i e0 o, aget H0 i = some e0 → e0.isOwn = true → aget μ i = some (m, o) → False) := by
  unfold afterH at h
  by_cases hnew : ∃ i e1, (i, e1) ∈ H1 ∧ 100 ≤ i ∧ i < 116 ∧ m = nwK nm (i - 100)
  · obtain ⟨i, e1, h1, h2, h3, rfl⟩ := hnew
    rw [backNew_hit _ nm ⟨h2, h3⟩ H1 _ e1 hnd h1] at h
    cases h
    exact .inl ⟨i, e1, h2, h3, rfl, nodup_get hnd h1, rfl⟩
  · rw [backNew_get _ nm m H1 _ (fun i e hi hr he => hnew ⟨i, e, hi, hr.1, hr.2, he.symm⟩)] at h
    by_cases hown : ∃ i e0 o, (i, e0) ∈ H0 ∧ e0.isOwn = true ∧ aget μ i = some (m, o)
    · obtain ⟨i, e0, o, h1, h2, h3⟩ := hown
      have hg := nodup_get hnd0 h1
      have ho : o = 0 := by
        have := (matchH_get hm i e0 hg).2
        rw [h3] at this
        simp only at this
        cases e0 with
        | dead => cases h2
        | mp es => split at this <;> first | exact this.2 | exact this.elim | (rename_i q _; cases q)
        | c own0 lv0 =>
          simp only [Ent.isOwn] at h2
          split at this
          · rename_i q _; cases q; exact (this.2.2.2 h2).2.1
          · rename_i q _; cases q
          · exact this.elim
      subst ho
      rw [backOwn_hit μ _ H1 h3 H0 H e0 h1 h2 (by
        intro i' e' o' h1' h2' h3'
        have := List.all_eq_true.1 hap _ h1'
        simp only [h2', Bool.not_true, Bool.false_or] at this
        have := List.all_eq_true.1 this _ h1
        simp only [h3', h3, Bool.or_eq_true, beq_iff_eq] at this
        rcases this with h | h
        · exact h
        · simp at h)] at h
      cases h
      refine .inr (.inl ⟨i, e0, hg, h2, h3, ?_⟩)
      cases hH1 : aget H1 i with
      | none => exact .inr rfl
      | some e1 => exact .inl ⟨e1, rfl, rfl⟩
    · rw [backOwn_get μ _ H1 m H0 H (fun i e j o h1 h2 h3 hj => hown ⟨i, e, o, h1, h2, hj ▸ h3⟩)] at h
      refine .inr (.inr ⟨h, ?_, fun i e0 o h1 h2 h3 => hown ⟨i, e0, o, mem_of_aget h1, h2, h3⟩⟩)
      rintro k hk rfl
      rw [free_get hfr hk] at h; cases h
/-- What was in the caller's memory, or is new, stands there. -/
theorem afterH_none {μ : List (Nat × (Nat × Nat))} {nm : Nat} {H H0 H1 : Heap} (hnd : nodupB H1 = true) {m : Nat} (h : aget (afterH μ nm H H0 H1) m = none) :
    aget H m = none ∧ ∀ i, 100 ≤ i → i < 116 → m = nwK nm (i - 100) → aget H1 i = none := by
  unfold afterH at h
  by_cases hnew : ∃ i e1, (i, e1) ∈ H1 ∧ 100 ≤ i ∧ i < 116 ∧ m = nwK nm (i - 100)
  · obtain ⟨i, e1, h1, h2, h3, rfl⟩ := hnew
    rw [backNew_hit _ nm ⟨h2, h3⟩ H1 _ e1 hnd h1] at h
    cases h
  · rw [backNew_get _ nm m H1 _ (fun i e hi hr he => hnew ⟨i, e, hi, hr.1, hr.2, he.symm⟩)] at h
    refine ⟨?_, fun i h1 h2 h3 => ?_⟩
    · have hh : ∀ (H0 H : Heap), aget (backOwn μ (mu1 μ nm) H1 H0 H) m = none → aget H m = none := by
        intro H0
        induction H0 with
        | nil => intro H h; exact h
        | cons p r ih =>
          obtain ⟨i, e⟩ := p
          intro H h
          simp only [backOwn] at h
          have := ih _ h
          split at this
          · split at this
            · rw [aget_aset] at this
              split at this
              · cases this
              · exact this
            · exact this
          · exact this
      exact hh H0 H h
    · cases hg : aget H1 i with
      | none => rfl
      | some e1 => exact absurd ⟨i, e1, mem_of_aget hg, h1, h2, h3⟩ hnew

end Go.Proofs.YtbobhbhgomkgpaaGreatDoor.S

/- The symbolic heap: a call by its contract is sound. Own work of this claim. -/
namespace Go.Proofs.YtbobhbhgomkgpaaGreatDoor.S
set_option linter.all false
open Go

theorem callC_ok (P : Program) {D : Cx} {G : Nat → Prop} {hp : HP} (hD : D G hp) : CallOkH P (callC D P) G hp := by
  intro g args H nm K h ν w vs hi hF
  obtain ⟨C, H0, args0, R, μ, hfn, htr, hDC, hfit, rfl, hm, hap, hfr, hdom, hnd0, h100, hK⟩ := h
  refine ⟨hfn.enters _ _, ?_⟩
  have hdom' : ∀ i p, aget μ i = some p → ∃ e, aget H0 i = some e := by
    intro i p hip
    have := List.all_eq_true.1 hdom _ (mem_of_aget hip)
    exact Option.isSome_iff_exists.1 this
  obtain ⟨ν0, hν0d⟩ : ∃ ν0 : Nm, ν0 = fun i => match aget μ i with | some (j, o) => (ν j).map (shiftL · o) | none => none := ⟨_, rfl⟩
  have hν0 : ∀ i j o L, aget μ i = some (j, o) → ν j = some L → ν0 i = some (shiftL L o) := by
    intro i j o L h1 h2; rw [hν0d]; simp [h1, h2]
  have hν0' : ∀ i L0, ν0 i = some L0 → ∃ j o L, aget μ i = some (j, o) ∧ ν j = some L ∧ L0 = shiftL L o := by
    intro i L0 h1
    rw [hν0d] at h1
    simp only at h1
    split at h1
    · rename_i j o hj
      cases hL : ν j with
      | none => rw [hL] at h1; cases h1
      | some L => rw [hL] at h1; cases h1; exact ⟨j, o, L, hj, hL, rfl⟩
    · cases h1
  -- what the entries handed over are
  have hlim : ∀ i e0 j o L, aget H0 i = some e0 → aget μ i = some (j, o) → ν j = some L → o ≤ L.lim ∧ (e0.isOwn = true → o = 0 ∧ ∃ e, aget H j = some e ∧ e.isOwn = true) ∧ (e0.live = true → ∃ e, aget H j = some e ∧ e.live = true) := by
    intro i e0 j o L h1 h2 h3
    have hmm := (matchH_get hm i e0 h1).2
    rw [h2] at hmm
    simp only at hmm
    split at hmm
    · rename_i own0 lv0 own lv hj
      obtain ⟨q1, q2, q3, q4⟩ := hmm
      have he := hi.er j _ hj
      simp only [ER, h3] at he
      obtain ⟨_, arr, T, fr, g1, g2, g3, _⟩ := he
      rw [LV.len_eq] at g3
      exact ⟨by omega, fun ho => ⟨(q4 ho).2.1, _, hj, (q4 ho).1⟩, fun _ => ⟨_, hj, rfl⟩⟩
    · rename_i es es' hj
      exact ⟨by rw [hmm.2]; omega, fun _ => ⟨hmm.2, _, hj, rfl⟩, fun _ => ⟨_, hj, rfl⟩⟩
    · exact hmm.elim
  have hI0 : Inv (Gof ν0 H0 w) ⟨w, fun n => aget H0 n ≠ none, ν0⟩ ν0 H0 w := by
    refine ⟨?_, ?_, ?_, fun b hb => ⟨rfl, hb.1⟩, fun n hn => ⟨rfl, hn⟩, fun n e L h1 h2 h3 hg => hg.2 n e L h1 h2 h3 rfl, ⟨rfl, rfl, rfl⟩⟩
    · intro i e0 h1
      have hmm := (matchH_get hm i e0 h1).2
      split at hmm
      · rename_i j o hj
        split at hmm
        · rename_i own0 lv0 own lv hHj
          obtain ⟨q1, q2, q3, q4⟩ := hmm
          have he := hi.er j _ hHj
          have hL2 : lv0.toL.map (renC (aget μ)) = (lv.toL.drop o).take lv0.len := by rw [← renL_toL, q2, LV.view_eq]
          cases hL : ν j with
          | none =>
            simp only [ER, hL] at he
            have : ν0 i = none := by
              cases h0 : ν0 i with
              | none => rfl
              | some L0 =>
                obtain ⟨j', o', L, e1, e2, _⟩ := hν0' _ _ h0
                rw [hj] at e1; cases e1; rw [hL] at e2; cases e2
            simp only [ER, this]
            rw [he] at hL2
            simpa using hL2
          | some L =>
            simp only [ER, hL] at he
            obtain ⟨g0, arr, T, fr, g1, g2, g3, g4, g5⟩ := he
            rw [LV.len_eq] at g3
            simp only [ER, hν0 i j o L hj hL]
            refine ⟨by simp only [shiftL]; rw [g0, q1], arr, T, fr, g1, by simp only [shiftL]; omega, by rw [LV.len_eq]; simp only [shiftL]; omega, ?_, fun ho => g5 (q4 ho).1⟩
            intro k hk
            rw [LV.len_eq] at hk
            obtain ⟨v, hv, c, hc, hr⟩ := g4 (o + k) (by rw [LV.len_eq]; omega)
            refine ⟨v, by simp only [shiftL]; rw [← hv, Nat.add_assoc], ?_⟩
            have hk2 := congrArg (·[k]?) hL2
            simp only [List.getElem?_map, List.getElem?_take_of_lt hk, List.getElem?_drop, hc] at hk2
            cases hc0 : lv0.toL[k]? with
            | none => rw [hc0] at hk2; cases hk2
            | some c0 =>
              rw [hc0] at hk2
              simp only [Option.map_some, Option.some.injEq] at hk2
              subst hk2
              exact ⟨c0, hc0, hr.enter hν0⟩
        · rename_i es es' hHj
          obtain ⟨rfl, rfl⟩ := hmm
          obtain ⟨L, hL, rest⟩ := hi.er j _ hHj
          exact ⟨_, hν0 i j 0 L hj hL, rest⟩
        · exact hmm.elim
      · rename_i hj
        have hnone : ν0 i = none := by
          cases h0 : ν0 i with
          | none => rfl
          | some L0 =>
            obtain ⟨j', o', L, e1, e2, _⟩ := hν0' _ _ h0
            rw [hj] at e1; cases e1
        split at hmm
        · rename_i own0 lv0
          simp only [ER, hnone]
          exact List.eq_nil_of_length_eq_zero (by rw [LV.len_eq]; exact hmm)
        · exact hmm.elim
    · intro i i' e e' h1 ho h2 hl hne L0 L0' hL0 hL0'
      obtain ⟨j, o, L, a1, a2, rfl⟩ := hν0' _ _ hL0
      obtain ⟨j', o', L', b1, b2, rfl⟩ := hν0' _ _ hL0'
      obtain ⟨_, x1, _⟩ := hlim i e j o L h1 a1 a2
      obtain ⟨_, _, x2⟩ := hlim i' e' j' o' L' h2 b1 b2
      obtain ⟨_, ej, y1, y2⟩ := x1 ho
      obtain ⟨ej', z1, z2⟩ := x2 hl
      have hjj : j ≠ j' := by
        have := List.all_eq_true.1 hap _ (mem_of_aget h1)
        simp only [ho, Bool.not_true, Bool.false_or] at this
        have := List.all_eq_true.1 this _ (mem_of_aget h2)
        simp only [a1, b1, Bool.or_eq_true, beq_iff_eq] at this
        rcases this with h | h
        · exact absurd h hne
        · simpa using h
      exact hi.inj j j' ej ej' y1 y2 z1 z2 hjj L L' a2 b2
    · intro i hi0
      cases h0 : ν0 i with
      | none => rfl
      | some L0 =>
        obtain ⟨j', o', L, e1, e2, _⟩ := hν0' _ _ h0
        obtain ⟨e, he⟩ := hdom' _ _ e1
        rw [hi0] at he; cases he
  have hF0 : F2 (VR ν0) args0 vs.toList := by
    have := F2.all_imp (S := VA ν) (fun a b hp hr => VR.fits hr hp) hfit hF
    exact F2.mem_map (fun a b h => (VA.enter hν0 h).vr) this
  have hG : ∀ b, G b → Gof ν0 H0 w b := by
    intro b hb
    refine ⟨(hi.gfr b hb).2, ?_⟩
    rintro n e0 L h1 h2 h3 rfl
    obtain ⟨j, o, L', a1, a2, rfl⟩ := hν0' _ _ h3
    obtain ⟨_, x, _⟩ := hlim n e0 j o L' h1 a1 a2
    obtain ⟨_, ej, y1, y2⟩ := x h2
    exact hi.own j ej L' y1 y2 a2 hb
  refine (hfn.calls ν0 w vs hI0 (htr G hp _ _ (fun b hb => ⟨hG b hb, (hi.gfr b hb).1⟩) (hDC G hp hD)) hF0).mono ?_
  rintro e w' ⟨c, r, H1, ν1, rfl, hR, hok, hv, hkeep, hI1⟩
  obtain ⟨hnd, hk⟩ := hK r H1 hR
  have hfree : ∀ k, k < 16 → ν (nwK nm k) = none := fun k hk => hi.dom _ (free_get hfr hk)
  obtain ⟨ν', hν'd⟩ : ∃ ν' : Nm, ν' = fun m => if nm ≤ m ∧ m < nm + 8 then ν1 (100 + (m - nm)) else if nm + 4000000 ≤ m ∧ m < nm + 4000008 then ν1 (108 + (m - (nm + 4000000))) else ν m := ⟨_, rfl⟩
  have hnew : ∀ i, 100 ≤ i → i < 116 → ν' (nwK nm (i - 100)) = ν1 i := by
    intro i h1 h2
    rw [hν'd]
    simp only
    unfold nwK
    split
    · rw [if_pos (by omega)]
      congr 1; omega
    · rw [if_neg (by omega), if_pos (by omega)]
      exact congrArg ν1 (by omega)
  have hold : ∀ m, (∀ k, k < 16 → m ≠ nwK nm k) → ν' m = ν m := by
    intro m h1
    rw [hν'd]
    simp only
    rw [if_neg, if_neg]
    · rintro ⟨h2, h3⟩
      exact h1 (m - (nm + 4000000) + 8) (by omega) (by unfold nwK; rw [if_neg (by omega)]; omega)
    · rintro ⟨h2, h3⟩
      exact h1 (m - nm) (by omega) (by unfold nwK; rw [if_pos (by omega)]; omega)
  have holds : ∀ m L, ν m = some L → ν' m = some L := by
    intro m L hL
    rw [hold m (by rintro k hk rfl; rw [hfree k hk] at hL; cases hL)]; exact hL
  have hargs : ∀ n e0 L, aget H0 n = some e0 → ν1 n = some L → ∃ m o L', mu1 μ nm n = some (m, o) ∧ ν' m = some L' ∧ L = shiftL L' o ∧ o ≤ L'.lim := by
    intro n e0 L h1 h2
    rw [hkeep n (by rw [h1]; simp) (fun h => by rw [hI1.dom n h] at h2; cases h2)] at h2
    obtain ⟨j, o, L', a1, a2, rfl⟩ := hν0' _ _ h2
    have hlt := (matchH_get hm n e0 h1).1
    refine ⟨j, o, L', ?_, holds _ _ a2, rfl, (hlim n e0 j o L' h1 a1 a2).1⟩
    unfold mu1
    rw [if_neg (by omega)]; exact a1
  have hleave : ∀ n L, ν1 n = some L → ∃ m o L', mu1 μ nm n = some (m, o) ∧ ν' m = some L' ∧ L = shiftL L' o ∧ o ≤ L'.lim := by
    intro n L hL
    have hin : aget (H1 ++ ros H0) n ≠ none := fun h => by rw [hI1.dom n h] at hL; cases hL
    rw [aget_append] at hin
    cases h1 : aget H1 n with
    | some e1 =>
      rcases (hok n e1 h1).2 with ⟨e0, h0, _⟩ | ⟨h2, h3⟩
      · exact hargs n e0 L h0 hL
      · refine ⟨nwK nm (n - 100), 0, L, ?_, ?_, (shift0 L).symm, Nat.zero_le _⟩
        · unfold mu1; rw [if_pos ⟨h2, h3⟩]
        · rw [hnew n h2 h3]; exact hL
    | none =>
      rw [h1] at hin
      simp only at hin
      cases h2 : aget (ros H0) n with
      | none => exact absurd h2 hin
      | some e0 =>
        have hmem := mem_of_aget h2
        have hmem' : (n, e0) ∈ H0 := (List.mem_filter.1 hmem).1
        exact hargs n e0 L (nodup_get hnd0 hmem') hL
  -- what stands unchanged lies apart from what the callee owns
  have hfar : ∀ m x M, aget H m = some x → x.live = true → ν m = some M → (∀ i e0 o, aget H0 i = some e0 → e0.isOwn = true → aget μ i = some (m, o) → False) → Gof ν0 H0 w M.blk := by
    intro m x M h1 h2 h3 h4
    refine ⟨(hi.er m x h1).lt h2 h3, ?_⟩
    intro n e0 L q1 q2 q3
    obtain ⟨j, o, L', a1, a2, rfl⟩ := hν0' _ _ q3
    obtain ⟨_, x', _⟩ := hlim n e0 j o L' q1 a1 a2
    obtain ⟨_, ej, y1, y2⟩ := x' q2
    exact hi.inj j m ej x y1 y2 h1 h2 (fun e => h4 n e0 o q1 q2 (e ▸ a1)) L' M a2 h3
  -- the entries that come back
  have hback : ∀ m e', ((∃ i e1, 100 ≤ i ∧ i < 116 ∧ m = nwK nm (i - 100) ∧ aget H1 i = some e1 ∧ e' = renE (mu1 μ nm) e1) ∨ (∃ i e0, aget H0 i = some e0 ∧ e0.isOwn = true ∧ aget μ i = some (m, 0) ∧ (∃ e1, aget H1 i = some e1 ∧ e' = renE (mu1 μ nm) e1))) →
      ∃ i e1, aget H1 i = some e1 ∧ e' = renE (mu1 μ nm) e1 ∧ ν' m = ν1 i := by
    rintro m e' (⟨i, e1, a1, a2, rfl, a3, rfl⟩ | ⟨i, e0, a1, a2, a3, e1, a4, rfl⟩)
    · exact ⟨i, e1, a3, rfl, hnew i a1 a2⟩
    · refine ⟨i, e1, a4, rfl, ?_⟩
      rw [hkeep i (by rw [a1]; simp) (by rw [aget_append, a4]; simp), hν0d]
      simp only [a3]
      have hmH : aget H m ≠ none := by
        have hmm := (matchH_get hm i e0 a1).2
        rw [a3] at hmm
        simp only at hmm
        split at hmm
        · rename_i q; rw [q]; simp
        · rename_i q; rw [q]; simp
        · exact hmm.elim
      rw [hold m (by rintro k hk rfl; exact hmH (free_get hfr hk))]
      cases hL : ν m with
      | none => rfl
      | some L => simp [shift0]
  have hH1 : ∀ i e1, aget H1 i = some e1 → aget (H1 ++ ros H0) i = some e1 := fun i e1 h => by rw [aget_append, h]
  refine ⟨c, renV (mu1 μ nm) r, afterH μ nm H H0 H1, ν', rfl, holds, hv.leave hleave, ?_, hk⟩
  have hcases := @afterH_cases μ nm H H0 H1 hfr hm hap hnd0 hnd
  refine Inv.mk ?er ?inj ?dom ?gfr ?nb ?own ⟨hI1.fx.1.trans hi.fx.1, hI1.fx.2.1.trans hi.fx.2.1, hI1.fx.2.2.trans hi.fx.2.2⟩
  case nb =>
    intro n hn
    have h1 := hi.nb n hn
    refine ⟨?_, fun h => h1.2 (afterH_none hnd h).1⟩
    rw [hold n (by rintro k hk rfl; exact h1.2 (free_get hfr hk))]; exact h1.1
  · intro m e' h
    rcases hcases h with h | ⟨i, e0, a1, a2, a3, h | rfl⟩ | ⟨h1, h2, h3⟩
    · obtain ⟨i, e1, b1, rfl, b2⟩ := hback m e' (.inl h)
      exact ER.leave hleave b2 (hI1.er i e1 (hH1 i e1 b1))
    · obtain ⟨i, e1, b1, rfl, b2⟩ := hback m e' (.inr ⟨i, e0, a1, a2, a3, h⟩)
      exact ER.leave hleave b2 (hI1.er i e1 (hH1 i e1 b1))
    · trivial
    · by_cases hl : e'.live = true
      · exact (hi.er m e' h1).move holds (hold m h2) (fun L hL => (hI1.gfr _ (hfar m e' L h1 hl hL h3)).1)
      · cases e' <;> first | trivial | (simp [Ent.live] at hl)
  · -- two entries lie apart
    have hown1 : ∀ i e1, aget H1 i = some e1 → e1.live = true → e1.isOwn = true := by
      intro i e1 h hl
      rcases (hok i e1 h).1 with h | rfl
      · exact h
      · cases hl
    have key : ∀ m m' x y, aget (afterH μ nm H H0 H1) m = some x → aget (afterH μ nm H H0 H1) m' = some y → x.live = true → y.live = true → m ≠ m' → ∀ L L', ν' m = some L → ν' m' = some L' → (x.isOwn = true ∨ y.isOwn = true) → L.blk ≠ L'.blk := by
      intro m m' x y hx hy hxl hyl hne L L' hL hL' hor
      have cls : ∀ m x, aget (afterH μ nm H H0 H1) m = some x → x.live = true → (∃ i e1, aget H1 i = some e1 ∧ x = renE (mu1 μ nm) e1 ∧ ν' m = ν1 i ∧ (m = nwK nm (i - 100) ∧ 100 ≤ i ∧ i < 116 ∨ aget μ i = some (m, 0) ∧ i < 100)) ∨ (aget H m = some x ∧ ν' m = ν m ∧ ∀ i e0 o, aget H0 i = some e0 → e0.isOwn = true → aget μ i = some (m, o) → False) := by
        intro m x h hl
        rcases hcases h with h | ⟨i, e0, a1, a2, a3, h | rfl⟩ | ⟨h1, h2, h3⟩
        · obtain ⟨i, e1, a1, a2, rfl, a3, rfl⟩ := h
          exact .inl ⟨i, e1, a3, rfl, hnew i a1 a2, .inl ⟨rfl, a1, a2⟩⟩
        · obtain ⟨e1, b1, rfl⟩ := h
          obtain ⟨i', e1', c1, c2, c3⟩ := hback m _ (.inr ⟨i, e0, a1, a2, a3, e1, b1, rfl⟩)
          refine .inl ⟨i, e1, b1, rfl, ?_, .inr ⟨a3, (matchH_get hm i e0 a1).1⟩⟩
          -- the name is the same
          rw [hkeep i (by rw [a1]; simp) (by rw [aget_append, b1]; simp), hν0d]
          simp only [a3]
          have hmH : aget H m ≠ none := by
            have hmm := (matchH_get hm i e0 a1).2
            rw [a3] at hmm
            simp only at hmm
            split at hmm
            · rename_i q; rw [q]; simp
            · rename_i q; rw [q]; simp
            · exact hmm.elim
          rw [hold m (by rintro k hk rfl; exact hmH (free_get hfr hk))]
          cases hL : ν m with
          | none => rfl
          | some L => simp [shift0]
        · cases hl
        · exact .inr ⟨h1, hold m h2, h3⟩
      rcases cls m x hx hxl with ⟨i, e1, a1, rfl, a2, a3⟩ | ⟨a1, a2, a3⟩ <;> rcases cls m' y hy hyl with ⟨i', e1', b1, rfl, b2, b3⟩ | ⟨b1, b2, b3⟩
      · have hii : i ≠ i' := by
          rintro rfl
          apply hne
          rcases a3 with ⟨q1, q2, q3⟩ | ⟨q1, q2⟩ <;> rcases b3 with ⟨r1, r2, r3⟩ | ⟨r1, r2⟩
          · rw [q1, r1]
          · omega
          · omega
          · rw [q1] at r1; cases r1; rfl
        rw [live_ren] at hxl hyl
        exact hI1.inj i i' e1 e1' (hH1 _ _ a1) (hown1 i e1 a1 hxl) (hH1 _ _ b1) hyl hii L L' (a2 ▸ hL) (b2 ▸ hL')
      · rw [live_ren] at hxl
        have h1 := hI1.own i e1 L (hH1 _ _ a1) (hown1 i e1 a1 hxl) (a2 ▸ hL)
        have h2 := hfar m' y L' b1 hyl (b2 ▸ hL') b3
        intro e; rw [e] at h1; exact h1 h2
      · rw [live_ren] at hyl
        have h1 := hI1.own i' e1' L' (hH1 _ _ b1) (hown1 i' e1' b1 hyl) (b2 ▸ hL')
        have h2 := hfar m x L a1 hxl (a2 ▸ hL) a3
        intro e; rw [← e] at h1; exact h1 h2
      · rcases hor with ho | ho
        · exact hi.inj m m' x y a1 ho b1 hyl hne L L' (a2 ▸ hL) (b2 ▸ hL')
        · exact (hi.inj m' m y x b1 ho a1 hxl (Ne.symm hne) L' L (b2 ▸ hL') (a2 ▸ hL)).symm
    intro m m' x y hx hxo hy hyl hne L L' hL hL'
    exact key m m' x y hx hy (by cases x <;> first | rfl | (simp [Ent.isOwn] at hxo)) hyl hne L L' hL hL' (.inl hxo)
  · intro m h
    obtain ⟨h1, h2⟩ := afterH_none hnd h
    rw [hν'd]
    simp only
    split
    · rename_i hr
      have h3 := h2 (100 + (m - nm)) (by omega) (by omega) (by unfold nwK; rw [if_pos (by omega)]; omega)
      refine hI1.dom _ ?_
      rw [aget_append, h3]
      simp only
      cases h4 : aget (ros H0) (100 + (m - nm)) with
      | none => rfl
      | some e0 =>
        have hmem' : (100 + (m - nm), e0) ∈ H0 := (List.mem_filter.1 (mem_of_aget h4)).1
        have := (matchH_get hm _ e0 (nodup_get hnd0 hmem')).1
        omega
    · split
      · rename_i hr0 hr
        have h3 := h2 (108 + (m - (nm + 4000000))) (by omega) (by omega) (by unfold nwK; rw [if_neg (by omega)]; omega)
        refine hI1.dom _ ?_
        rw [aget_append, h3]
        simp only
        cases h4 : aget (ros H0) (108 + (m - (nm + 4000000))) with
        | none => rfl
        | some e0 =>
          have hmem' : (108 + (m - (nm + 4000000)), e0) ∈ H0 := (List.mem_filter.1 (mem_of_aget h4)).1
          have := (matchH_get hm _ e0 (nodup_get hnd0 hmem')).1
          omega
      · exact hi.dom m h1
  · intro b hb
    obtain ⟨h1, h2⟩ := hI1.gfr b (hG b hb)
    exact ⟨h1.trans (hi.gfr b hb).1, h2⟩
  · intro m x L hx hxo hL hg
    rcases hcases hx with h | ⟨i, e0, a1, a2, a3, h | rfl⟩ | ⟨h1, h2, h3⟩
    · obtain ⟨i, e1, b1, rfl, b2⟩ := hback m x (.inl h)
      rw [isOwn_ren] at hxo
      exact hI1.own i e1 L (hH1 _ _ b1) hxo (b2 ▸ hL) (hG _ hg)
    · obtain ⟨i, e1, b1, rfl, b2⟩ := hback m x (.inr ⟨i, e0, a1, a2, a3, h⟩)
      rw [isOwn_ren] at hxo
      exact hI1.own i e1 L (hH1 _ _ b1) hxo (b2 ▸ hL) (hG _ hg)
    · cases hxo
    · exact hi.own m x L h1 hxo (by rw [← hold m h2]; exact hL) hg

theorem callA_ok (P : Program) : CallOk P (callA P) := fun G hp g args H nm K h => by
  obtain ⟨H0, args0, R, μ, hfn, h⟩ := h
  exact callC_ok P (D := Cx0) trivial g args H nm K ⟨Cx0, H0, args0, R, μ, hfn, fun _ _ _ _ _ _ => trivial, fun _ _ _ => trivial, h⟩

end Go.Proofs.YtbobhbhgomkgpaaGreatDoor.S

/- The symbolic heap: names given anew (at a loop's end, at a return); a function's contract out of its code. Own work of this claim. -/
namespace Go.Proofs.YtbobhbhgomkgpaaGreatDoor.S
set_option linter.all false
open Go
variable {D : Cx}

abbrev Rho := List (Nat × (Nat × Nat))
/-- A cell under new names: entry n from cell o0 on is now m. -/
def renD (ρ : Rho) : AV → AV
  | .ptr n o => match aget ρ n with | some (m, o0) => if o0 ≤ o then .ptr m (o - o0) else .any | none => .any
  | .sl n o l => match aget ρ n with | some (m, o0) => if o0 ≤ o then .sl m (o - o0) l else .any | none => .any
  | .mapv n => match aget ρ n with | some (m, o0) => if o0 = 0 then .mapv m else .any | none => .any
  | .fn f caps => if caps.all fun p => match aget ρ p.1 with | some (_, o0) => decide (o0 ≤ p.2) | none => false then
      .fn f (caps.map fun p => match aget ρ p.1 with | some (m, o0) => (m, p.2 - o0) | none => p) else .any
  | c => c
theorem noN_renD (ρ : Rho) (l : List AV) : (noN l).map (renD ρ) = noN l := noN_fix (fun c h => by cases c <;> first | rfl | cases h) l
def renDA (ρ : Rho) : AV → AV
  | .agg cs => .agg (cs.map (renD ρ))
  | c => renD ρ c
def renDV (ρ : Rho) : AV → AV
  | .tup vs => .tup (vs.map (renDA ρ))
  | c => renDA ρ c
def renDL (ρ : Rho) : LV → LV
  | .av z l => .av z (l.map (renD ρ))
  | l => l
def renDE (ρ : Rho) (o0 : Nat) : Ent → Ent
  | .c b lv => if o0 = 0 then .c b (renDL ρ lv) else .c b (renDL ρ (lv.view o0 (lv.len - o0)))
  | e => e
def selH (ρf : Rho) (H : Heap) : Rho → Heap
  | [] => []
  | (n, (m, o0)) :: r => match aget H n with
    | some e => (m, renDE ρf o0 e) :: selH ρf H r
    | none => selH ρf H r
/-- The names are distinct on either side, and no entry is cut behind its end. -/
def okRen (H : Heap) : Rho → Bool
  | [] => true
  | (n, (m, o0)) :: r => (r.all fun p => p.1 != n && p.2.1 != m) && (match aget H n with
      | some (.c _ lv) => decide (o0 ≤ lv.len)
      | _ => o0 == 0) && okRen H r

theorem okRen_get {H : Heap} : ∀ {ρ : Rho}, okRen H ρ = true → ∀ {n m o0}, (n, (m, o0)) ∈ ρ → aget ρ n = some (m, o0) ∧ (match aget H n with | some (.c _ lv) => o0 ≤ lv.len | _ => o0 = 0)
  | [], _, n, m, o0, hm => by simp at hm
  | (k, (j, p0)) :: r, h, n, m, o0, hm => by
    simp only [okRen, Bool.and_eq_true] at h
    obtain ⟨⟨h1, h2⟩, h3⟩ := h
    simp only [List.mem_cons, Prod.mk.injEq] at hm
    simp only [aget]
    rcases hm with ⟨rfl, rfl, rfl⟩ | hm
    · rw [if_pos rfl]
      refine ⟨rfl, ?_⟩
      split at h2 <;> simp_all
    · have := List.all_eq_true.1 h1 _ hm
      simp at this
      rw [if_neg (Ne.symm this.1)]
      exact okRen_get h3 hm
theorem okRen_inj {H : Heap} : ∀ {ρ : Rho}, okRen H ρ = true → ∀ {n n' m o0 o0'}, (n, (m, o0)) ∈ ρ → (n', (m, o0')) ∈ ρ → n = n' ∧ o0 = o0'
  | [], _, n, n', m, o0, o0', hm, _ => by simp at hm
  | (k, (j, p0)) :: r, h, n, n', m, o0, o0', hm, hm' => by
    simp only [okRen, Bool.and_eq_true] at h
    obtain ⟨⟨h1, h2⟩, h3⟩ := h
    simp only [List.mem_cons, Prod.mk.injEq] at hm hm'
    rcases hm with ⟨rfl, rfl, rfl⟩ | hm <;> rcases hm' with ⟨rfl, h4, h5⟩ | hm'
    · exact ⟨rfl, h5.symm⟩
    · have := List.all_eq_true.1 h1 _ hm'
      simp at this
    · have := List.all_eq_true.1 h1 _ hm
      simp [h4] at this
    · exact okRen_inj h3 hm hm'
def invR (ρ : Rho) (m : Nat) : Option (Nat × Nat) := match ρ.find? fun p => p.2.1 == m with
  | some (n, (_, o0)) => some (n, o0)
  | none => none
def nuR (ρ : Rho) (ν : Nm) : Nm := fun m => match invR ρ m with
  | some (n, o0) => (ν n).map (shiftL · o0)
  | none => none
theorem invR_some {ρ : Rho} {m n o0 : Nat} (h : invR ρ m = some (n, o0)) : (n, (m, o0)) ∈ ρ := by
  unfold invR at h
  split at h
  · rename_i n' m' o' hf
    cases h
    have h1 := List.mem_of_find?_eq_some hf
    have h2 := List.find?_some hf
    simp at h2
    subst h2; exact h1
  · cases h
theorem invR_of {H : Heap} {ρ : Rho} (hok : okRen H ρ = true) {m n o0 : Nat} (h : (n, (m, o0)) ∈ ρ) : invR ρ m = some (n, o0) := by
  cases hi : invR ρ m with
  | some p =>
    obtain ⟨n', o'⟩ := p
    obtain ⟨rfl, rfl⟩ := okRen_inj hok h (invR_some hi)
    rfl
  | none =>
    unfold invR at hi
    split at hi
    · cases hi
    · rename_i hf
      have := List.find?_eq_none.1 hf _ h
      simp at this

section
variable {H : Heap} {ρ : Rho} {ν : Nm}
theorem nuR_of (hok : okRen H ρ = true) {n m o0 : Nat} {L : Loc} (h : aget ρ n = some (m, o0)) (hL : ν n = some L) : nuR ρ ν m = some (shiftL L o0) := by
  unfold nuR
  rw [invR_of hok (mem_of_aget h)]
  simp [hL]
theorem PR.ren (hok : okRen H ρ = true) {n o m o0 : Nat} {v : Value} (hm : aget ρ n = some (m, o0)) (ho : o0 ≤ o) (h : PR ν (n, o) v) : PR (nuR ρ ν) (m, o - o0) v := by
  obtain ⟨L, hL, rfl⟩ := h
  refine ⟨_, nuR_of hok hm hL, ?_⟩
  simp only [shiftL]
  congr 3; omega
theorem CR.ren (hok : okRen H ρ = true) {c : AV} {v : Value} (h : CR ν c v) : CR (nuR ρ ν) (renD ρ c) v := by
  have hone := h.one
  cases c with
  | ptr n o =>
    simp only [renD]
    split
    · rename_i m o0 hm
      split
      · rename_i ho; exact PR.ren hok hm ho h
      · exact hone
    · exact hone
  | sl n o l =>
    simp only [renD]
    split
    · rename_i m o0 hm
      split
      · rename_i ho
        rcases h with ⟨L, cp, q1, q2, q3, rfl⟩ | ⟨rfl, p, rfl⟩
        · refine Or.inl ⟨_, cp, nuR_of hok hm q1, q2, by simp only [shiftL]; omega, ?_⟩
          simp only [shiftL]
          congr 3; omega
        · exact Or.inr ⟨rfl, p, rfl⟩
      · exact hone
    · exact hone
  | mapv n =>
    simp only [renD]
    split
    · rename_i m o0 hm
      split
      · rename_i ho
        obtain ⟨L, hL, rfl⟩ := h
        exact ⟨_, nuR_of hok hm hL, rfl⟩
      · exact hone
    · exact hone
  | fn f caps =>
    simp only [renD]
    split
    · rename_i hall
      obtain ⟨arr, rfl, hF⟩ := h
      refine ⟨arr, rfl, ?_⟩
      generalize arr.toList = vs at hF
      clear hone
      revert vs
      induction caps with
      | nil => intro vs hF; cases hF; exact .nil
      | cons p caps ih =>
        intro vs hF
        simp only [List.all_cons, Bool.and_eq_true] at hall
        cases hF with
        | cons hp ht =>
          refine .cons ?_ (ih hall.2 _ ht)
          have h1 := hall.1
          split at h1
          · rename_i m o0 hm
            simp only [hm]
            exact PR.ren hok hm (by simpa using h1) hp
          · cases h1
    · exact hone
  | int _ _ => exact h
  | bool _ => exact h
  | str _ => exact h
  | emp => exact h
  | lit _ => exact h
  | any => exact h
  | agg _ => simp [CR] at h
  | tup _ => simp [CR] at h
theorem VA.ren (hok : okRen H ρ = true) {c : AV} {v : Value} (h : VA ν c v) : VA (nuR ρ ν) (renDA ρ c) v := by
  cases c with
  | agg cs => obtain ⟨arr, rfl, hF⟩ := h; exact ⟨arr, rfl, F2.map (fun _ _ h => h.ren hok) hF⟩
  | tup _ => simp [VA, CR] at h
  | ptr n o => exact VA.of_CR (CR.ren hok (c := .ptr n o) h)
  | sl n o l => exact VA.of_CR (CR.ren hok (c := .sl n o l) h)
  | mapv n => exact VA.of_CR (CR.ren hok (c := .mapv n) h)
  | fn f caps => exact VA.of_CR (CR.ren hok (c := .fn f caps) h)
  | int _ _ => exact h
  | bool _ => exact h
  | str _ => exact h
  | emp => exact h
  | lit _ => exact h
  | any => exact h
theorem VR.ren (hok : okRen H ρ = true) {c : AV} {v : Value} (h : VR ν c v) : VR (nuR ρ ν) (renDV ρ c) v := by
  cases c with
  | tup vs => obtain ⟨arr, rfl, hF⟩ := h; exact ⟨arr, rfl, F2.map (fun _ _ h => h.ren hok) hF⟩
  | any => trivial
  | agg cs => exact VA.ren hok (c := .agg cs) h
  | ptr n o => exact (VA.ren hok (c := .ptr n o) h).vr
  | sl n o l => exact (VA.ren hok (c := .sl n o l) h).vr
  | mapv n => exact (VA.ren hok (c := .mapv n) h).vr
  | fn f caps => exact (VA.ren hok (c := .fn f caps) h).vr
  | int _ _ => exact h
  | bool _ => exact h
  | str _ => exact h
  | emp => exact h
  | lit _ => exact h
theorem renDL_toL (ρ : Rho) (lv : LV) : (renDL ρ lv).toL = lv.toL.map (renD ρ) := by
  cases lv <;> simp [renDL, LV.toL, renD, Function.comp_def]
  rename_i l
  induction l with
  | nil => rfl
  | cons a l ih => simp [opL, renD] at ih ⊢; rw [← ih]
theorem renDL_z (ρ : Rho) (lv : LV) : (renDL ρ lv).z = lv.z := by cases lv <;> rfl

theorem selH_get (hok : okRen H ρ = true) : ∀ (r : Rho), (∀ p ∈ r, p ∈ ρ) → ∀ m e', aget (selH ρ H r) m = some e' → ∃ n o0 e, (n, (m, o0)) ∈ r ∧ aget H n = some e ∧ e' = renDE ρ o0 e
  | [], _, m, e', h => by simp [selH, aget] at h
  | (n, (j, o0)) :: r, hr, m, e', h => by
    simp only [selH] at h
    split at h
    · rename_i e he
      simp only [aget] at h
      split at h
      · rename_i hj; subst hj; cases h
        exact ⟨n, o0, e, by simp, he, rfl⟩
      · obtain ⟨n', o', e, h1, h2, h3⟩ := selH_get hok r (fun p hp => hr p (by simp [hp])) m e' h
        exact ⟨n', o', e, by simp [h1], h2, h3⟩
    · obtain ⟨n', o', e, h1, h2, h3⟩ := selH_get hok r (fun p hp => hr p (by simp [hp])) m e' h
      exact ⟨n', o', e, by simp [h1], h2, h3⟩
theorem selH_none : ∀ (r : Rho) (n m o0 : Nat), (n, (m, o0)) ∈ r → aget (selH ρ H r) m = none → aget H n = none
  | (k, (j, p0)) :: r, n, m, o0, hm, h => by
    simp only [List.mem_cons, Prod.mk.injEq] at hm
    simp only [selH] at h
    split at h
    · rename_i e he
      simp only [aget] at h
      split at h
      · cases h
      · rename_i hj
        rcases hm with ⟨rfl, rfl, rfl⟩ | hm
        · exact absurd rfl hj
        · exact selH_none r n m o0 hm h
    · rename_i he
      rcases hm with ⟨rfl, rfl, rfl⟩ | hm
      · exact he
      · exact selH_none r n m o0 hm h

theorem Inv.ren {G : Nat → Prop} {hp hp' : HP} {w : World} (hi : Inv G hp ν H w) (hok : okRen H ρ = true) (ha : hp'.wb = hp.wb) (hnb : ∀ n, hp'.B n → nuR ρ ν n = hp'.νb n ∧ aget (selH ρ H ρ) n ≠ none) :
    Inv G hp' (nuR ρ ν) (selH ρ H ρ) w := by
  have hcls := fun m e' h => selH_get hok ρ (fun _ h => h) m e' h
  have hnu : ∀ n m o0, (n, (m, o0)) ∈ ρ → nuR ρ ν m = (ν n).map (shiftL · o0) := by
    intro n m o0 h
    unfold nuR
    rw [invR_of hok h]
  refine ⟨?_, ?_, ?_, ?_, hnb, ?_, by rw [ha]; exact hi.fx⟩
  · intro m e' h
    obtain ⟨n, o0, e, h1, h2, rfl⟩ := hcls m e' h
    have he := hi.er n e h2
    have hle := (okRen_get hok h1).2
    rw [h2] at hle
    cases e with
    | dead => trivial
    | mp es =>
      simp only at hle
      subst hle
      obtain ⟨L, hL, rest⟩ := he
      exact ⟨L, by rw [hnu _ _ _ h1, hL]; simp [shift0], rest⟩
    | c own lv =>
      simp only at hle
      have key : ∀ lv', lv'.toL = (lv.toL.drop o0).map (renD ρ) → lv'.z = lv.z → ER (nuR ρ ν) w m (.c own lv') := by
        intro lv' hL' hz'
        simp only [ER] at he ⊢
        rw [hnu _ _ _ h1]
        cases hL : ν n with
        | none => rw [hL] at he; simp only [Option.map_none] at he ⊢; rw [hL', he]; simp
        | some L =>
          rw [hL] at he
          simp only [Option.map_some] at he ⊢
          obtain ⟨g0, arr, T, fr, g1, g2, g3, g4, g5⟩ := he
          rw [LV.len_eq] at g3
          refine ⟨by simp only [shiftL]; rw [g0, hz'], arr, T, fr, g1, by simp only [shiftL]; omega, by rw [hL', List.length_map, List.length_drop, LV.len_eq]; simp only [shiftL]; omega, ?_, g5⟩
          intro k hk
          rw [hL', List.length_map, List.length_drop] at hk
          obtain ⟨v, hv, c, hc, hr⟩ := g4 (o0 + k) (by omega)
          refine ⟨v, by simp only [shiftL]; rw [← hv, Nat.add_assoc], _, ?_, hr.ren hok⟩
          rw [hL', List.getElem?_map, List.getElem?_drop, hc]; rfl
      simp only [renDE]
      split
      · rename_i h0
        subst h0
        exact key _ (by rw [renDL_toL]; simp) (renDL_z _ _)
      · refine key _ ?_ (by rw [renDL_z, LV.view_z])
        rw [renDL_toL, LV.view_eq, List.take_of_length_le (by rw [List.length_drop, LV.len_eq]; exact Nat.le_refl _)]
  · intro a b x y hx hxo hy hyl hne L L' hL hL'
    obtain ⟨n, o0, e, h1, h2, rfl⟩ := hcls a x hx
    obtain ⟨n', o0', e', h1', h2', rfl⟩ := hcls b y hy
    rw [hnu _ _ _ h1] at hL
    rw [hnu _ _ _ h1'] at hL'
    have hnn : n ≠ n' := by
      rintro rfl
      have := (okRen_get hok h1).1
      rw [(okRen_get hok h1').1] at this
      cases this
      exact hne rfl
    cases hn : ν n with
    | none => rw [hn] at hL; cases hL
    | some M =>
      cases hn' : ν n' with
      | none => rw [hn'] at hL'; cases hL'
      | some M' =>
        rw [hn] at hL; rw [hn'] at hL'
        cases hL; cases hL'
        have ho : e.isOwn = true := by
          cases e <;> simp only [renDE] at hxo <;> first | exact hxo | (split at hxo <;> exact hxo)
        have hl : e'.live = true := by
          cases e' <;> first | rfl | exact hyl
        exact hi.inj n n' e e' h2 ho h2' hl hnn M M' hn hn'
  · intro m h
    unfold nuR
    split
    · rename_i n o0 hinv
      have := selH_none ρ n m o0 (invR_some hinv) h
      rw [hi.dom n this]; rfl
    · rfl
  · intro b hb; unfold HP.a; rw [ha]; exact hi.gfr b hb
  · intro m x L hx hxo hL hg
    obtain ⟨n, o0, e, h1, h2, rfl⟩ := hcls m x hx
    rw [hnu _ _ _ h1] at hL
    cases hn : ν n with
    | none => rw [hn] at hL; cases hL
    | some M =>
      rw [hn] at hL; cases hL
      have ho : e.isOwn = true := by
        cases e <;> simp only [renDE] at hxo <;> first | exact hxo | (split at hxo <;> exact hxo)
      exact hi.own n e M h2 ho hn hg
end

/-! Names given anew on the way -/
theorem Env.get_map (env : Env) (f : AV → AV) (hf : f .any = .any) (t : Nat) : Env.get (env.map fun p => (p.1, f p.2)) t = f (Env.get env t) := by
  unfold Env.get
  induction env with
  | nil => exact hf.symm
  | cons p r ih =>
    obtain ⟨k, x⟩ := p
    simp only [List.map_cons, aget]
    by_cases hk : k = t
    · simp [hk]
    · simp only [if_neg hk]; exact ih
def idOld (H : Heap) : Rho := (H.filter fun p => p.1 < 100).map fun p => (p.1, (p.1, 0))
theorem W_ren {P : Program} {nt : Nat} {ks : List It} {env : Env} {H : Heap} {R : Env → Heap → Prop} (ρ : Rho) (hok : okRen H (idOld H ++ ρ) = true)
    (h : W D P nt ks (env.map fun p => (p.1, renDV (idOld H ++ ρ) p.2)) (selH (idOld H ++ ρ) H (idOld H ++ ρ)) R) : W D P nt ks env H R := by
  intro hk G hp hB hD ν a w st
  refine h hk G hp hB hD (nuR (idOld H ++ ρ) ν) a w ⟨st.defers, st.size, ?_, st.inv.ren hok rfl ?_⟩
  · intro t
    have hv := st.env t
    have : Env.get (env.map fun p => (p.1, renDV (idOld H ++ ρ) p.2)) t = renDV (idOld H ++ ρ) (env.get t) := Env.get_map env (renDV _) rfl t
    rw [this]
    exact hv.ren hok
  · intro n hn
    obtain ⟨h1, h2⟩ := st.inv.nb n hn
    have hlt := hB n hn
    obtain ⟨e, he⟩ := Option.ne_none_iff_exists'.1 h2
    have hmem : (n, (n, 0)) ∈ idOld H ++ ρ := by
      refine List.mem_append_left _ (List.mem_map.2 ⟨(n, e), List.mem_filter.2 ⟨mem_of_aget he, by simpa using hlt⟩, rfl⟩)
    refine ⟨?_, fun hnone => h2 (selH_none _ _ _ _ hmem hnone)⟩
    unfold nuR
    rw [invR_of hok hmem]
    rw [← h1]
    simp only
    cases ν n with
    | none => rfl
    | some L => simp [shift0]


/-! A function's contract out of its code -/
def resOne (P : Program) (env : Env) (H : Heap) : ResultVar → Option AV
  | .tmp t => if (env.get t).fits then some (env.get t) else none
  | .cell a t => match env.get a with
    | .ptr n off => match aget H n with
      | some (.c _ lv) => if off + (tyI P t).sz ≤ lv.len then (if (tyI P t).agg then some (lv.ex off (tyI P t).sz) else if (tyI P t).sz = 1 then some (lv.lk off) else none) else none
      | _ => none
    | _ => none
def resA (P : Program) (rs : List ResultVar) (env : Env) (H : Heap) : Option AV :=
  match rs.mapM (resOne P env H) with
  | some [v] => some v
  | some vs => some (.tup vs)
  | none => none

def fillC : List Nat → List AV → List AV × List Nat
  | ns, [] => ([], ns)
  | n :: ns, .emp :: r => let q := fillC ns r; (.sl n 0 0 :: q.1, q.2)
  | ns, c :: r => let q := fillC ns r; (c :: q.1, q.2)
def fillA : List Nat → AV → AV × List Nat
  | ns, .agg cs => let q := fillC ns cs; (.agg q.1, q.2)
  | n :: ns, .emp => (.sl n 0 0, ns)
  | ns, c => (c, ns)
def fillT : List Nat → List AV → List AV
  | _, [] => []
  | ns, a :: r => let q := fillA ns a; q.1 :: fillT q.2 r
def fillV (ns : List Nat) : AV → AV
  | .tup vs => .tup (fillT ns vs)
  | c => (fillA ns c).1
theorem fillC_ok {ν : Nm} : ∀ (cs : List AV) (ns : List Nat) (vs : List Value), F2 (CR ν) cs vs → F2 (CR ν) (fillC ns cs).1 vs
  | [], ns, _, .nil => by cases ns <;> exact .nil
  | c :: cs, [], _, .cons h t => by simp only [fillC]; exact .cons h (fillC_ok cs [] _ t)
  | c :: cs, n :: ns, _, .cons h t => by
    cases c <;> simp only [fillC] <;> first | exact .cons h (fillC_ok cs _ _ t) | skip
    exact .cons (.inr ⟨rfl, h⟩) (fillC_ok cs ns _ t)
theorem fillA_ok {ν : Nm} {a : AV} {v : Value} (ns : List Nat) (h : VA ν a v) : VA ν (fillA ns a).1 v := by
  cases a with
  | agg cs =>
    obtain ⟨arr, rfl, hF⟩ := h
    have : fillA ns (.agg cs) = (.agg (fillC ns cs).1, (fillC ns cs).2) := by cases ns <;> rfl
    rw [this]
    exact ⟨arr, rfl, fillC_ok cs ns _ hF⟩
  | emp => cases ns with
    | nil => exact h
    | cons n ns => exact Or.inr ⟨rfl, h⟩
  | _ => all_goals (cases ns <;> exact h)
theorem fillT_ok {ν : Nm} : ∀ (as : List AV) (ns : List Nat) (vs : List Value), F2 (VA ν) as vs → F2 (VA ν) (fillT ns as) vs
  | [], _, _, .nil => .nil
  | a :: as, ns, _, .cons h t => by simp only [fillT]; exact .cons (fillA_ok ns h) (fillT_ok as _ _ t)
theorem fillV_ok {ν : Nm} {a : AV} {v : Value} (ns : List Nat) (h : VR ν a v) : VR ν (fillV ns a) v := by
  cases a with
  | tup vs => obtain ⟨arr, rfl, hF⟩ := h; exact ⟨arr, rfl, fillT_ok vs ns _ hF⟩
  | any => cases ns <;> trivial
  | agg cs => exact (fillA_ok ns (a := .agg cs) h).vr
  | emp => exact (fillA_ok ns (a := .emp) h).vr
  | lit _ => exact (fillA_ok ns (a := .lit _) h).vr
  | ptr n o => exact (fillA_ok ns (a := .ptr n o) h).vr
  | sl n o l => exact (fillA_ok ns (a := .sl n o l) h).vr
  | mapv n => exact (fillA_ok ns (a := .mapv n) h).vr
  | fn f caps => exact (fillA_ok ns (a := .fn f caps) h).vr
  | int _ _ => exact (fillA_ok ns (a := .int _ _) h).vr
  | bool _ => exact (fillA_ok ns (a := .bool _) h).vr
  | str _ => exact (fillA_ok ns (a := .str _) h).vr

/-- What a return must show: the result and memory, under the contract's names. -/
def idRO (H0 : Heap) : Rho := (ros H0).map fun p => (p.1, (p.1, 0))
def rosOk (H : Heap) (ρ : Rho) : Heap → Prop
  | [] => True
  | (n, e) :: r => (e.isOwn = false → aget H n = some e ∧ renDE ρ 0 e = e) ∧ rosOk H ρ r
def tgtOk (H0 : Heap) : Rho → Bool
  | [] => true
  | (n, (m, o0)) :: r => ((100 ≤ m && m < 116) || (n == m && o0 == 0 && match aget H0 m with | some e => e.isOwn | none => false)) && tgtOk H0 r
def ownAll (H : Heap) : Rho → Bool
  | [] => true
  | (n, _) :: r => (match aget H n with | some e => e.isOwn | none => false) && ownAll H r
def empOk (ρ : Rho) : List (Nat × LV) → Bool
  | [] => true
  | (m, lv) :: r => decide (100 ≤ m) && decide (m < 116) && (lv.len == 0) && (ρ.all fun p => p.2.1 != m) && (r.all fun p => p.1 != m) && empOk ρ r
def RetP (H0 : Heap) (R : AV → Heap → Prop) (r : AV) (H : Heap) : Prop :=
  ∃ (ρ : Rho) (emps : List (Nat × LV)), okRen H (idRO H0 ++ ρ) = true ∧ rosOk H (idRO H0 ++ ρ) H0 ∧ tgtOk H0 ρ = true ∧ ownAll H ρ = true ∧ empOk ρ emps = true ∧
    R (fillV (emps.map (·.1)) (renDV (idRO H0 ++ ρ) r)) (selH (idRO H0 ++ ρ) H ρ ++ emps.map fun p => (p.1, .c true p.2))

end Go.Proofs.YtbobhbhgomkgpaaGreatDoor.S

/- The symbolic heap: a function's contract out of its code. Own work of this claim. -/
namespace Go.Proofs.YtbobhbhgomkgpaaGreatDoor.S
set_option linter.all false
open Go
variable {D : Cx}

def envOf (args : List AV) : Env := args.zipIdx.map fun p => (p.2, p.1)
theorem envOf_get : ∀ (args : List AV) (k t : Nat), aget (args.zipIdx k |>.map fun p => (p.2, p.1)) t = if k ≤ t then args[t - k]? else none
  | [], k, t => by simp [aget]
  | a :: args, k, t => by
    simp only [List.zipIdx_cons, List.map_cons, aget]
    by_cases h : k = t
    · subst h; simp
    · rw [if_neg h, envOf_get args (k + 1) t]
      by_cases h1 : k ≤ t
      · rw [if_pos h1, if_pos (by omega)]
        have : t - k = (t - (k + 1)) + 1 := by omega
        rw [this, List.getElem?_cons_succ]
      · rw [if_neg h1, if_neg (by omega)]

theorem Inv.addE {G : Nat → Prop} {hp : HP} {ν : Nm} {H H' : Heap} {w : World} (h : Inv G hp ν H w) (hB : ∀ n, ¬ hp.B n)
    (he : ∀ n, aget H' n = aget H n ∨ (aget H n = none ∧ ∃ lv, aget H' n = some (.c true lv) ∧ lv.len = 0)) : Inv G hp ν H' w where
  fx := h.fx
  er n e hn := by
    rcases he n with h1 | ⟨h1, lv, h2, h3⟩
    · exact h.er n e (h1 ▸ hn)
    · rw [h2] at hn; cases hn
      simp only [ER, h.dom n h1]
      exact List.eq_nil_of_length_eq_zero (by rw [LV.len_eq]; exact h3)
  inj n m e e' hn ho hm hl hne L L' hL hL' := by
    rcases he n with h1 | ⟨h1, lv, h2, h3⟩
    · rcases he m with g1 | ⟨g1, _⟩
      · exact h.inj n m e e' (h1 ▸ hn) ho (g1 ▸ hm) hl hne L L' hL hL'
      · rw [h.dom m g1] at hL'; cases hL'
    · rw [h.dom n h1] at hL; cases hL
  dom n hn := by
    rcases he n with h1 | ⟨h1, _⟩
    · exact h.dom n (h1 ▸ hn)
    · exact h.dom n h1
  gfr := h.gfr
  nb n hn := absurd hn (hB n)
  own n e L hn ho hL := by
    rcases he n with h1 | ⟨h1, _⟩
    · exact h.own n e L (h1 ▸ hn) ho hL
    · rw [h.dom n h1] at hL; cases hL

theorem tgt_mem {H0 : Heap} : ∀ {ρ : Rho}, tgtOk H0 ρ = true → ∀ {n m o0}, (n, (m, o0)) ∈ ρ → (100 ≤ m ∧ m < 116) ∨ (n = m ∧ o0 = 0 ∧ ∃ e, aget H0 m = some e ∧ e.isOwn = true)
  | (k, (j, p0)) :: r, h, n, m, o0, hm => by
    simp only [tgtOk, Bool.and_eq_true, Bool.or_eq_true] at h
    simp only [List.mem_cons, Prod.mk.injEq] at hm
    rcases hm with ⟨rfl, rfl, rfl⟩ | hm
    · rcases h.1 with h | h
      · left; simpa using h
      · right
        obtain ⟨⟨h1, h2⟩, h3⟩ := h
        refine ⟨by simpa using h1, by simpa using h2, ?_⟩
        split at h3
        · rename_i e he; exact ⟨e, he, h3⟩
        · cases h3
    · exact tgt_mem h.2 hm
theorem own_mem {H : Heap} : ∀ {ρ : Rho}, ownAll H ρ = true → ∀ {n p}, (n, p) ∈ ρ → ∃ e, aget H n = some e ∧ e.isOwn = true
  | (k, q) :: r, h, n, p, hm => by
    simp only [ownAll, Bool.and_eq_true] at h
    simp only [List.mem_cons, Prod.mk.injEq] at hm
    rcases hm with ⟨rfl, rfl⟩ | hm
    · have := h.1
      split at this
      · rename_i e he; exact ⟨e, he, this⟩
      · cases this
    · exact own_mem h.2 hm
theorem emp_mem {ρ : Rho} : ∀ {l : List (Nat × LV)}, empOk ρ l = true → ∀ {m : Nat} {e : Ent}, aget (l.map fun p => (p.1, Ent.c true p.2)) m = some e → (100 ≤ m ∧ m < 116) ∧ (∃ lv, e = .c true lv ∧ lv.len = 0) ∧ (∀ p ∈ ρ, p.2.1 ≠ m)
  | (k, lv) :: r, h, m, e, hm => by
    simp only [empOk, Bool.and_eq_true] at h
    obtain ⟨⟨⟨⟨⟨h1, h2⟩, h3⟩, h4⟩, h5⟩, h6⟩ := h
    simp only [List.map_cons, aget] at hm
    split at hm
    · rename_i hk; subst hk; cases hm
      refine ⟨by simp at h1 h2; omega, ⟨lv, rfl, by simpa using h3⟩, fun p hp => ?_⟩
      have := List.all_eq_true.1 h4 p hp
      simpa using this
    · exact emp_mem h6 hm
theorem aget_app {β : Type} (l m : List (Nat × β)) (n : Nat) : aget (l ++ m) n = match aget l n with | some e => some e | none => aget m n := by
  induction l with
  | nil => rfl
  | cons p l ih =>
    obtain ⟨k, e⟩ := p
    simp only [List.cons_append, aget]
    by_cases h : k = n
    · simp [h]
    · simp [h, ih]
theorem selH_app (ρf : Rho) (H : Heap) : ∀ (a b : Rho), selH ρf H (a ++ b) = selH ρf H a ++ selH ρf H b
  | [], b => rfl
  | (n, (m, o0)) :: a, b => by
    simp only [List.cons_append, selH]
    split <;> simp [selH_app ρf H a b]
theorem selRO_get {ρf : Rho} {H : Heap} : ∀ {H0 : Heap}, rosOk H ρf H0 → ∀ n, aget (selH ρf H (idRO H0)) n = aget (ros H0) n
  | [], _, n => rfl
  | (k, e) :: r, h, n => by
    have ih := selRO_get (H0 := r) h.2 n
    simp only [idRO, ros, List.filter_cons] at ih ⊢
    cases ho : e.isOwn with
    | true => simpa using ih
    | false =>
      obtain ⟨h1, h2⟩ := h.1 ho
      simp only [Bool.not_false, if_true, List.map_cons, selH, h1, h2, aget]
      by_cases hk : k = n
      · simp [hk]
      · simp only [if_neg hk]; exact ih

theorem ret_ok {H0 : Heap} {R : AV → Heap → Prop} {r : AV} {H : Heap} (h : RetP H0 R r H) (hnd : nodupB H0 = true) (h100 : ∀ p ∈ H0, p.1 < 100) {G : Nat → Prop} {a : World} {νb ν : Nm} {w : World} {c : Value}
    (hi : Inv G ⟨a, fun n => aget H0 n ≠ none, νb⟩ ν H w) (hv : VR ν r c) :
    ∃ r' H1 ν1, R r' H1 ∧ okNames H0 H1 ∧ VR ν1 r' c ∧ (∀ n, aget H0 n ≠ none → aget (H1 ++ ros H0) n ≠ none → ν1 n = νb n) ∧ Inv G ⟨a, fun _ => False, νb⟩ ν1 (H1 ++ ros H0) w := by
  obtain ⟨ρ, emps, hok, hros, htgt, hown, hemp, hR⟩ := h
  have hRO : ∀ n, aget (ros H0) n ≠ none → (n, (n, 0)) ∈ idRO H0 ++ ρ := by
    intro n hn
    obtain ⟨e, he⟩ := Option.ne_none_iff_exists'.1 hn
    exact List.mem_append_left _ (List.mem_map.2 ⟨(n, e), mem_of_aget he, rfl⟩)
  have hROlt : ∀ n e, aget (ros H0) n = some e → n < 100 ∧ aget H0 n = some e ∧ e.isOwn = false := by
    intro n e he
    have hm := List.mem_filter.1 (mem_of_aget he)
    exact ⟨h100 _ hm.1, nodup_get hnd hm.1, by simpa using hm.2⟩
  have hsel : ∀ m e', aget (selH (idRO H0 ++ ρ) H ρ) m = some e' → ∃ n o0 e, (n, (m, o0)) ∈ ρ ∧ aget H n = some e ∧ e' = renDE (idRO H0 ++ ρ) o0 e := by
    intro m e' h
    obtain ⟨n, o0, e, h1, h2, h3⟩ := selH_get hok ρ (fun p hp => List.mem_append_right _ hp) m e' h
    exact ⟨n, o0, e, h1, h2, h3⟩
  have hI := hi.ren (hp' := ⟨a, fun _ => False, νb⟩) hok rfl (fun _ h => h.elim)
  have hnuid : ∀ n, (n, (n, 0)) ∈ idRO H0 ++ ρ → nuR (idRO H0 ++ ρ) ν n = ν n := by
    intro n hn
    unfold nuR
    rw [invR_of hok hn]
    simp only
    cases ν n with
    | none => rfl
    | some L => simp [shift0]
  refine ⟨_, _, nuR (idRO H0 ++ ρ) ν, hR, ?_, fillV_ok _ (hv.ren hok), ?_, hI.addE (fun _ h => h) ?_⟩
  · intro n e hn
    rw [aget_app] at hn
    split at hn
    · rename_i e' he'
      cases hn
      obtain ⟨n', o0, e0, q1, q2, rfl⟩ := hsel n e he'
      obtain ⟨e0', r1, r2⟩ := own_mem hown q1
      rw [q2] at r1; cases r1
      refine ⟨.inl ?_, ?_⟩
      · cases e0 <;> simp only [renDE] <;> first | exact r2 | (split <;> exact r2)
      · rcases tgt_mem htgt q1 with h | ⟨_, _, h⟩
        · exact .inr h
        · exact .inl h
    · obtain ⟨h1, ⟨lv, rfl, _⟩, _⟩ := emp_mem hemp hn
      exact ⟨.inl rfl, .inr h1⟩
  · intro n h0 h1
    have hnb := (hi.nb n h0).1
    simp only at hnb
    rw [← hnb]
    rw [aget_app, aget_app] at h1
    have hlt : n < 100 := by
      obtain ⟨e, he⟩ := Option.ne_none_iff_exists'.1 h0
      exact h100 _ (mem_of_aget he)
    split at h1
    · rename_i e' he'
      split at he'
      · rename_i e2 he2
        obtain ⟨n', o0, e0, q1, q2, _⟩ := hsel n e2 he2
        rcases tgt_mem htgt q1 with h | ⟨rfl, rfl, _⟩
        · omega
        · exact hnuid _ (List.mem_append_right _ q1)
      · obtain ⟨hh, _⟩ := emp_mem hemp he'
        omega
    · exact hnuid n (hRO n h1)
  · intro n
    rw [selH_app, aget_app, aget_app, aget_app, selRO_get hros]
    cases h1 : aget (selH (idRO H0 ++ ρ) H ρ) n with
    | some e =>
      left
      simp only
      cases h2 : aget (ros H0) n with
      | none => rfl
      | some e2 =>
        exfalso
        obtain ⟨q1, q2, q3⟩ := hROlt n e2 h2
        obtain ⟨n', o0, e0, r1, _, _⟩ := hsel n e h1
        rcases tgt_mem htgt r1 with h | ⟨_, _, e3, r2, r3⟩
        · omega
        · rw [q2] at r2; cases r2; rw [q3] at r3; cases r3
    | none =>
      simp only
      cases h2 : aget (emps.map fun p => (p.1, Ent.c true p.2)) n with
      | some e =>
        right
        obtain ⟨q1, ⟨lv, rfl, q2⟩, q3⟩ := emp_mem hemp h2
        refine ⟨?_, lv, rfl, q2⟩
        cases h3 : aget (ros H0) n with
        | none => rfl
        | some e2 =>
          have := (hROlt n e2 h3).1
          omega
      | none =>
        left
        simp only
        cases h3 : aget (ros H0) n <;> rfl

theorem res_ok {P : Program} {ν : Nm} {env : Env} {H : Heap} {G : Nat → Prop} {hp : HP} {w : World} {tmps : Array Value} (he : EnvRel ν env tmps) (hi : Inv G hp ν H w) {fn : Func} {r : AV} (h : resA P fn.results.toList env H = some r) :
    ∃ v, (results fn tmps).run P w = .ok v w ∧ VR ν r v := by
  have hone : ∀ rv x, resOne P env H rv = some x → ∃ v, ((match rv with | .tmp t => pure (tmps.getD t undef) | .cell a t => do loadVar t (← asAddr (tmps.getD a undef)) : Sem Value)).run P w = .ok v w ∧ VA ν x v := by
    intro rv x hx
    cases rv with
    | tmp t =>
      simp only [resOne] at hx
      split at hx
      · rename_i hf; cases hx
        exact ⟨_, rfl, (he t).fits hf⟩
      · cases hx
    | cell a t =>
      simp only [resOne] at hx
      have hv := he a
      split at hx
      · rename_i n off hp
        rw [hp] at hv
        split at hx
        · rename_i own lv hH
          split at hx
          · rename_i hle
            obtain ⟨cv, v, r1, r2, rfl⟩ := sLoad_ok (P := P) (t := t) (K := fun v => v = x) hi hv (by
              simp only [sLoad, hH]
              refine ⟨hle, ?_⟩
              split at hx
              · rename_i hagg; rw [if_pos hagg]; cases hx; rfl
              · rename_i hagg
                rw [if_neg hagg]
                split at hx
                · rename_i hs; cases hx; exact ⟨hs, rfl⟩
                · cases hx)
            refine ⟨cv, ?_, r2⟩
            obtain ⟨L, hL, hv⟩ := hv
            rw [hv] at r1
            simp only [Instr.loadAt, Instr.sureAddr, Sem.run_bind, Sem.run_pure, Result.andThen_ok] at r1
            simp only [hv, asAddr, Sem.run_bind, Sem.run_pure, Result.andThen_ok]
            exact r1
          · cases hx
        · cases hx
      · cases hx
  have hall : ∀ (rs : List ResultVar) (xs : List AV), rs.mapM (resOne P env H) = some xs → ∃ vs : List Value,
      (rs.mapM (fun rv => match rv with | .tmp t => pure (tmps.getD t undef) | .cell a t => do loadVar t (← asAddr (tmps.getD a undef)) : ResultVar → Sem Value)).run P w = .ok vs w ∧ F2 (VA ν) xs vs := by
    intro rs
    induction rs with
    | nil => intro xs h; simp at h; subst h; exact ⟨[], rfl, .nil⟩
    | cons rv rs ih =>
      intro xs h
      simp only [List.mapM_cons, Option.bind_eq_bind, Option.pure_def] at h
      cases h1 : resOne P env H rv with
      | none => simp [h1] at h
      | some x =>
        cases h2 : rs.mapM (resOne P env H) with
        | none => simp [h1, h2] at h
        | some xs' =>
          simp [h1, h2] at h
          subst h
          obtain ⟨v, a1, a2⟩ := hone rv x h1
          obtain ⟨vs, b1, b2⟩ := ih xs' h2
          refine ⟨v :: vs, ?_, .cons a2 b2⟩
          rw [List.mapM_cons]
          simp only [Sem.run_bind, a1, b1, Result.andThen_ok, Sem.run_pure]
  unfold resA at h
  unfold results
  rw [Array.mapM_eq_mapM_toList]
  split at h
  · rename_i v hm
    cases h
    obtain ⟨vs, h1, h2⟩ := hall _ _ hm
    cases h2 with
    | cons hv ht =>
      cases ht
      refine ⟨_, ?_, hv.vr⟩
      simp only [Sem.run_bind, Sem.run_map]
      refine (congrArg (fun z => Result.andThen (Result.andThen z _) _) h1).trans ?_
      rfl
  · rename_i vs' hne hm
    cases h
    obtain ⟨vs, h1, h2⟩ := hall _ _ hm
    refine ⟨.tuple vs.toArray, ?_, vs.toArray, rfl, h2⟩
    simp only [Sem.run_bind, Sem.run_map]
    refine (congrArg (fun z => Result.andThen (Result.andThen z _) _) h1).trans ?_
    simp only [Result.andThen_ok, Sem.run_pure]
    rw [dif_neg]
    intro hsz
    simp only [List.size_toArray] at hsz
    rw [← h2.length] at hsz
    match vs', hsz with
    | [v], _ => exact hne v rfl
  · cases h

theorem Fn_of_code {C : Cx} {P : Program} {f : Nat} {fn : Func} {c : Code} {H0 : Heap} {args : List AV} {R : AV → Heap → Prop} (hf : P.funcs[f]? = some fn) (hb : fn.body = some c) (hname : (fn.name == "runtime.NumGoroutine") = false)
    (hok : codeOk fn.ntmps c = true) (hlen : args.length ≤ fn.ntmps) (hnd : nodupB H0 = true) (h100 : ∀ p ∈ H0, p.1 < 100)
    (h : W C P fn.ntmps [.code c] (envOf args) H0 fun env H => ∃ r, resA P fn.results.toList env H = some r ∧ RetP H0 R r H) : FnC C P f H0 args R := by
  refine ⟨fun vs w => ?_, fun ν w vs hi hC hF => ?_⟩
  · simp [callFunc, hf, hb]
    simpa using hname
  · refine calls_of_wp hf hb ?_
    have hvs : vs.size = args.length := by rw [hF.length]; simp
    have st : St (Gof ν H0 w) ⟨w, fun n => aget H0 n ≠ none, ν⟩ fn.ntmps ν (envOf args) H0 { tmps := vs ++ Array.replicate (fn.ntmps - vs.size) undef, defers := [] } w := by
      refine ⟨rfl, by simp; omega, fun t => ?_, hi⟩
      unfold Env.get envOf
      rw [envOf_get args 0 t, if_pos (Nat.zero_le _), Nat.sub_zero]
      cases ha : args[t]? with
      | none => trivial
      | some a =>
        obtain ⟨v, hv, hr⟩ := hF.get ha
        have hlt : t < vs.size := by
          have := (List.getElem?_eq_some_iff.1 hv).1
          simpa using this
        have : (vs ++ Array.replicate (fn.ntmps - vs.size) undef).getD t undef = v := by
          rw [Array.getD_eq_getD_getElem?, Array.getElem?_append_left hlt]
          simp at hv
          rw [hv]; rfl
        rw [this]; exact hr
    have hW := h (by intro k hk; simp at hk; subst hk; exact hok) _ _ (fun n hn => by
      obtain ⟨e, he⟩ := Option.ne_none_iff_exists'.1 hn
      exact h100 _ (mem_of_aget he)) hC ν _ w st
    refine wp_mono hW ?_
    rintro e a w' ⟨he, ν', env, H, ⟨r, hr, hret⟩, st'⟩
    obtain ⟨v, hv, hvr⟩ := res_ok st'.env st'.inv hr
    obtain ⟨r', H1, ν1, g1, g2, g3, g4, g5⟩ := ret_ok hret hnd h100 st'.inv hvr
    have : a.defers = [] ∧ ∃ v, (results fn a.tmps).run P w' = .ok v w' ∧ ∃ c r H1 ν1, Ending.returned v = .returned c ∧ R r H1 ∧ okNames H0 H1 ∧ VR ν1 r c ∧ (∀ n, aget H0 n ≠ none → aget (H1 ++ ros H0) n ≠ none → ν1 n = ν n) ∧ Inv (Gof ν H0 w) ⟨w, fun _ => False, ν⟩ ν1 (H1 ++ ros H0) w' :=
      ⟨st'.defers, v, hv, v, r', H1, ν1, rfl, g1, g2, g3, g4, g5⟩
    rcases he with rfl | rfl <;> exact this

end Go.Proofs.YtbobhbhgomkgpaaGreatDoor.S
