import PyProof.Rows.All
import Wide.All
import OpenK.AllK
import Wide.FinOn
import HandS.Exc
import HandS.ExcInit
import HandS.ExcField
import HandS.Nested
import KE.KExcSuper
import KE.KSuper
import HandS.ForMost
import HandS.Comp
import HandS.Defaults
import HandS.Walk
import HandS.Flow
import HandS.TupAny
import HandS.IsInst
import KE.DataEq
import HandS.Style
import HandS.Text
import HandS.SortKw
import HandS.Dict
import HandS.ForDict
import HandS.Zip
import KE.GoesMore
import KE.GoesEnum
import PyProof.EnumMake
import KE.DatumOrd
import KE.DataMinMax
import KE.LtData
import KE.DataMinKey
import HandS.Iter
import HandS.AnyAll
import KE.GoesZip
import HandS.TupMul
import PyProof.Rows.SumAny
import HandS.ExcOwn
import HandS.TryOnly
import HandS.HeadHook1
import HandS.HeadHook2
import HandS.Head0
import HandS.Head1
import HandS.Head2
import HandS.HeadEnd
import HandS.EndBits
import HandS.EndTab
import HandS.HeadWalk
import HandS.EndOwn
import PySem.Challenge.RW_boundbook_k57_work_and_turn
set_option Elab.async false
set_option linter.all false
set_option maxRecDepth 100000
set_option autoImplicit false
/-! XI: an own exception class over ValueError (some classes between) whose __init__ says super().__init__(what); self.what = what. -/
namespace Bk
open PySem PySem.Spec PyProof.Rows L2
/-- what the module says of such a class -/
structure InitAt (P : Program) (K : PySem.W.Frag) (C f : Addr) (fs : List Str) (x qual : Str) (params : Arguments) (body : List Stmt) (scope : Scope) (fd : FuncData) : Prop where
  ex : ∃ (oc : Value) (od : Option Addr) (osl : Array (Option Value)) (cc cda : Addr) (vs : Array Value) (file : Str) (tf : Tok) (occ : Value) (ocd : Option Addr) (ccs : Array (Option Value)) (cl : Value) (cld : Option Addr) (csl : Array (Option Value)) (dV kV doc pm ct : Value) (an : Option Addr),
    fd = PySem.W.fnX x qual params body scope [("__class__", cc)] dV kV doc pm an (.ref cda) ct ∧ K.lookup f = some ⟨oc, od, .func fd, osl⟩ ∧ PySem.W.codeIn K (.ref cda) qual = true ∧ K.lookup cda = some ⟨occ, ocd, .fields vs, ccs⟩ ∧
      vs[2]? = some (.str file tf) ∧ ((P.main.file : Str) == file) = true ∧ K.lookup cc = some ⟨cl, cld, .cell (some (.ref C)), csl⟩
  sup : PySem.W.ks_superIn K C C "__init__" = some (some (.builtin "ValueError.__init__"))
  sub : PySem.W.subIn K (.ref C) (.type "ValueError") = some true
  mro : PySem.W.mroIn K C (.ref C) = some true
  tp : PySem.W.nsIn K cStatics "thirdparty.any" = some none
  oex : OexC K C
  no : ∀ f ∈ fs, PySem.W.findIn K (.ref C) f = some none
/-- the promise of __init__(self, what) -/
def spWhat (C : Addr) (f : Str) : Sp := fun vs H Q _ => ∃ a x, vs = [.ref a, x] ∧ H a = some (exo a C none) ∧ ∀ d, H d = none → d ≠ a → Q .non (upd (upd H d (exd d [(f, x)])) a (exo a C (some d)))
theorem superCall {P : Program} {w : World} {A : Around} {E : Value → Shared → Prop} {h : Heap} {g : Array GenState} {d : Drawn} {t : Nat} {os : OsState} {C u e t0 : Addr} {rest : List Value} {Q : Value → Shared → Prop}
    {nm q : Str} {N : Addr} {bs bm : List Value} {hdct : Bool} {sn : List Str} {sub : List Value} {ab : Bool} {col : Option Bool} {dd : Option Addr} {k0 k1 k2 k3 k5 : Option Value}
    (hC : h.get? C = some (excClassObj nm q C N bs bm hdct sn sub ab col dd k0 k1 k2 k3 k5 "ValueError.__new__")) (he : h.get? e = some (PySem.HandSPX.excO C t0)) (hu : h.get? u = some (PySem.W.kxs_mw "ValueError.__init__" e)) (hrest : rest.length ≤ sizeLine)
    (hq : ∀ h' t1, (∀ b o, b ≠ e → h.get? b = some o → h'.get? b = some o) → h'.get? e = some (PySem.HandSPX.excO C t1) → Q .none ⟨h', g, d, t, os⟩) :
    wpAny (model P w) A (call (.ref u) rest) Q E ⟨h, g, d, t, os⟩ := by
  have FB := PySem.F.excBase_ValueError
  refine wpAny_call (codeAny_of_tree ?_)
  show wpAny _ A.in1 (callAny (.ref u) ⟨rest, []⟩) _ _ _
  simp only [callAny]
  refine wpAny_bind (wpAny_load hu ?_)
  simp only [PySem.W.kxs_mw, show (Value.type "method-wrapper" == Value.type "method" || Value.type "method-wrapper" == Value.type "builtin_function_or_method" || Value.type "method-wrapper" == Value.type "method-wrapper") = true by decide, if_true]
  refine PySem.W.KFB.if_so (by decide) ?_
  refine wpAny_bind (PySem.W.check_bound_init FB.toExcCallFacts hC he rfl ?_)
  refine wpAny_bind (wpAny_pure (wpAny_pure ?_))
  refine ⟨plainId_quiet FB.init.plain _, codeAny_builtin FB.initEntry ?_⟩
  exact PySem.W.exc_init_tree (cls := .ref C) (t0 := t0) (dv := none) (c2 := .none) (c3 := .none) (b4 := .bool false) he hrest fun h' k e' _ => hq h' _ k e'

theorem inits {P : Program} {w : World} {K : PySem.W.Frag} {mg : Str → Option Value} {base : Heap} {k : Nat} {C f : Addr} {qual : Str} {params : Arguments} {body : List Stmt} {scope : Scope} {fd : FuncData} {ar : Arg} {p0 p1 p2 p3 p4 p5 q1 q2 q3 q4 : Pos} {fn : Str}
    (IA : InitAt P K C f [fn] "__init__" qual params body scope fd) (S : NdefX.NScope ["self", fn, "__class__"] ["self", fn] ["__class__"] scope)
    (hb : body = [.Expr (.Call (.Attribute (.Call (.Name "super" p0) [] [] p1) "__init__" p2) [.Name fn p3] [] p4) p5, .Assign [.Attribute (.Name "self" q1) fn q2] (.Name fn q3) q4])
    (hm : mg "super" = none) (hs : scope.names.lookup ("super" : Str) = some .globalImplicit) (hp : (params.posonlyargs ++ params.args).head? = some ar) (har : ar.arg = "self") (htop : (P.main.scope.names.lookup ("super" : Str)).isSome = false)
    (hd1 : (fn == ("__debug__" : Str)) = false) (hd2 : (fn == ("__classdict__" : Str)) = false) (hline : (p2.endLine == p4.line) = true) : FnOk P w K mg base (CX P w) (k + 1) f fd ["self", fn] (spWhat C fn) := by
  obtain ⟨oc, od, osl, cc, cda, cvs, file, tf, occ, ocd, ccs, cl, cld, csl, dV, kV, doc, pm, ct, an, rfl, lk, hcd, hcode, hvs, hfile, hcell⟩ := IA.ex
  refine ⟨fun vs H Q E q => by obtain ⟨a, x, rfl, _⟩ := q; rfl, fun A outer s H args us vs Q E hr e0 hbi r hsp => ?_⟩
  obtain ⟨a, x, rfl, ha, hq⟩ := hsp
  have KX : K.In s.heap := e0.mod.kin.keeps fun b o e => (e0.bs b o e).1
  have lim : s.heap.NoLimit := e0.mod.nolimit.keeps fun b o e => (e0.bs b o e).1
  have r' := r
  cases r' with
  | @cons _ u0 _ ur ra r2 =>
  cases r2 with
  | @cons _ u1 _ ur2 rx r3 =>
  cases r3
  obtain rfl : u0 = Value.ref a := ra
  have fne : fn ≠ "self" := fun z => by
    have := S.nd
    rw [z] at this
    exact absurd this (by decide)
  refine ks_codeAny_call_defAt (fd := PySem.W.fnX "__init__" qual params body scope [("__class__", cc)] dV kV doc pm an (.ref cda) ct) (body := body) (binds := (["self", fn] : List Str).zip [Value.ref a, u1]) hr.depth (KX _ _ lk) rfl lim (PySem.W.codeRec_of KX hcd) rfl hbi S.nocell
    (fun y hy => S.par y.1 (List.of_mem_zip hy).1) (fun h₁ hns kp => ?_) S.co S.gen S.kind
  have hcc : H cc = none ∧ base.get? cc = some ⟨cl, cld, .cell (some (.ref C)), csl⟩ := by
    have z := e0.mod.kin _ _ hcell
    exact ⟨(e0.bs _ _ z).2, z⟩
  have cells : NdefX.CellsAt [(("__class__" : Str), cc)] ["__class__"] [none] s.heap H := by
    have hl : ∀ y c, ([(("__class__" : Str), cc)] : List (Str × Addr)).lookup y = some c → c = cc := fun y c e => by
      have := PySem.mem_of_lookup e
      simp at this
      exact this.2
    refine ⟨rfl, fun y c e => ?_, fun x y c e1 e2 => ?_, fun i y e => ?_⟩
    · rw [hl y c e]
      exact ⟨hcc.1, _, ⟨_, (e0.bs _ _ hcc.2).1, rfl⟩⟩
    · have h1 := PySem.mem_of_lookup e1
      have h2 := PySem.mem_of_lookup e2
      simp at h1 h2
      rw [h1.1, h2.1]
    · cases i with
      | zero =>
        simp at e
        subst e
        exact ⟨cc, by simp [List.lookup], fun v z => by simp at z⟩
      | succ i => simp at e
  have I : Inv (NdefX.ncx (CX P w) P w K mg base ["self", fn, "__class__"] ⟨"__init__", qual, params, body, scope, [("__class__", cc)], cda⟩ f A outer s H E) [] (NdefX.startF ["self", fn, "__class__"] [.ref a, x] [none]) H { s with heap := h₁, toks := s.toks + ((["self", fn] : List Str).zip [Value.ref a, u1]).length } :=
    NdefX.inv_startN S hr.hd e0 rfl r cells hns kp
  generalize hX : NdefX.ncx (CX P w) P w K mg base ["self", fn, "__class__"] ⟨"__init__", qual, params, body, scope, [("__class__", cc)], cda⟩ f A outer s H E = X at I
  have k1 : X.env.kindOf ("super" : Str) = some .globalImplicit := by rw [← hX]; exact hs
  have k2 : X.env.kindOf ("__class__" : Str) = some .free := by rw [← hX]; exact S.frk _ (by simp)
  have k3 : X.env.kindOf ("self" : Str) = some .local := by rw [← hX]; exact S.par _ (by simp)
  have k4 : X.env.kindOf fn = some .local := by rw [← hX]; exact S.par _ (by simp)
  have k5 : X.env.scope.kind = .function := by rw [← hX]; exact S.kind
  have XP : X.prog = P := by rw [← hX] <;> rfl
  have hE : X.env.cells.lookup ("__class__" : Str) = some cc := by rw [← hX]; rfl
  have hf : X.env.func = some f := by rw [← hX]; rfl
  have hco : X.env.code = .ref cda := by rw [← hX]; rfl
  have hg : X.env.globals = mainGlobals := by rw [← hX]; rfl
  have hL : X.env.locals = s.heap.objs.size := by rw [← hX]; rfl
  have hgl : Gl X "super" := k1
  have hmX : X.mg "super" = none := by rw [← hX]; exact hm
  have hKX : X.K = K := by rw [← hX] <;> rfl
  have hN : X.N = (["self", fn, "__class__"] : List Str) := by rw [← hX] <;> rfl
  have hwX : X.w = w := by rw [← hX] <;> rfl
  suffices z : _root_.PySem.wpAt (model P w) X.A (.func body X.env) (execs body X.env) (fun fl s' => SP X [] { nx := fun _ H' => Q .non H', rt := Q } fl s') (fun e s' => X.xe e s') { s with heap := h₁, toks := s.toks + ((["self", fn] : List Str).zip [Value.ref a, u1]).length } by
    subst hX
    refine ks_wpAt_mono z (fun fl s' hs' => ?_) fun e s' hs' => hs'
    have fin : ∀ {σ' : L2.St} {H' : Hp} {v : V} {u : Value}, Inv (NdefX.ncx (CX P w) P w K mg base ["self", fn, "__class__"] ⟨"__init__", qual, params, body, scope, [("__class__", cc)], cda⟩ f A outer s H E) [] σ' H' s' → L2.RelV v u → Q v H' → CE outer P w H s Q u s' :=
      fun {σ' H' v u} J rv q => ⟨v, H', J.os, J.bare, J.base, J.hok, rv, q⟩
    cases fl with
    | ret u =>
      obtain ⟨v, σ', H', J, rv, q⟩ := hs'
      exact fin J rv q
    | next =>
      obtain ⟨σ', H', J, q⟩ := hs'
      exact fin (v := V.non) (u := Value.none) J rfl q
    | brk =>
      obtain ⟨_, _, _, q⟩ := hs'
      exact False.elim q
    | cont =>
      obtain ⟨_, _, _, q⟩ := hs'
      exact False.elim q
  subst hb
  subst XP hwX hKX
  have hint : interactive X.env = false := by
    unfold interactive
    simp [k5]
  have he : eval (.Call (.Attribute (.Call (.Name "super" p0) [] [] p1) "__init__" p2) [.Name fn p3] [] p4) X.env = (do
      let ov ← attributeBase (.Call (.Name "super" p0) [] [] p1) "__init__" X.env (eval (.Call (.Name "super" p0) [] [] p1) X.env)
      standAt p2.atName
      let (f, first) ← holding [ov] (getMethod ov "__init__" (do return (← importBound (.Call (.Name "super" p0) [] [] p1) X.env).getD true))
      callWith p4 f first (backTo p4 (starEach [.Name fn p3] X.env)) []) := by
    rw [arm_eval_Call]
    have hpos : methodCallPos true (.Call (.Name "super" p0) [] [] p1) X.env p2 p4 = pure p4 := by unfold methodCallPos; simp [hline]
    refine bind_congr fun ov => bind_congr fun _ => ?_
    unfold methodCall calleeOf
    have hform : methodCallForm ([Expr.Name fn p3].length + ([] : List Keyword).length) (backTo p4 (starEach [.Name fn p3] X.env)) (backToKw p4 (keywordEach [] X.env)) = true := rfl
    rw [hform]
    simp only [if_true, hpos, pure_bind]
    rfl
  have hlk : ((["self", fn] : List Str).zip [Value.ref a, u1]).reverse.lookup ("self" : Str) = some (Value.ref a) := by
    have e : ((("self" : Str)) == fn) = false := beq_eq_false_iff_ne.mpr (Ne.symm fne)
    simp [List.lookup, e]
  refine ks_wpAt_execs_cons (ks_wpAt_Expr_any (ks_wpAt_MethodCall ?_ he) hint)
  have Kh : X.K.In h₁ := I.kIn
  refine ks_wpAt_super_base (ar := ar) k1 k2 rfl hf (Kh _ _ lk) rfl hp hco (Kh _ _ hcode) rfl hvs hfile htop ?_
  refine wpAny_mono (Q := fun g s1 => g = .type "super" ∧ s1 = { s with heap := h₁, toks := s.toks + ((["self", fn] : List Str).zip [Value.ref a, u1]).length }) ?_ (fun g s1 hg1 => ?_) fun _ _ z => z
  · obtain ⟨mb, b1, b2⟩ := I.mod.blt
    refine PySem.W.ks_loadName_global k5 k1 (Calls.loadGlobal_builtin (by rw [I.ok.glob]; exact I.mod.glob.keeps I.bk) hmX (by rw [I.ok.blt]; exact b1.keeps I.bk) ((b2 "super" (by decide)).trans rfl) ⟨rfl, rfl⟩)
  obtain ⟨rfl, rfl⟩ := hg1
  refine ⟨rfl, ?_⟩
  refine wpAny_loadName_free k5 k2 hE ⟨_, Kh _ _ hcell, rfl⟩ ?_
  refine wpAny_loadName_local k5 (har ▸ k3) (by rw [hL]; exact hns) (by rw [har]; exact hlk) ?_
  obtain ⟨nm, cq, cN, cbs, cbm, csn, csub, cab, ccol, cdd, c0, c1, c2, c3, c5, hC, hbm⟩ := IA.oex.cls
  have hCh := Kh _ _ hC
  obtain ⟨t0, ho⟩ := exo_at I.hok ha
  refine ks_wpAny_isType_cls hCh rfl ⟨rfl, ?_⟩
  refine ks_wpAny_call_super hCh rfl ho rfl (fun c e => nomatch e) (PySem.W.looks_mroIn Kh IA.mro) (fun h2 es k2' => ?_)
  have I2 : Inv X [] (NdefX.startF ["self", fn, "__class__"] [.ref a, x] [none]) H { s with heap := h2, toks := s.toks + ((["self", fn] : List Str).zip [Value.ref a, u1]).length } := I.kept k2'
  have K2 : X.K.In h2 := I2.kIn
  have hcl : PySem.W.clsIn X.K C = some { name := nm, bases := cbs, mro := .ref C :: cbm, ns := cN, qualname := cq, hasDict := true, slotNames := csn, subclasses := csub, abstract := cab, collection := ccol, hasDel := false } := by unfold PySem.W.clsIn; rw [hC] <;> rfl
  have hsup := IA.sup
  unfold PySem.W.ks_superIn at hsup
  rw [hcl] at hsup
  have hI : PySem.W.Looks (model X.prog X.w) h2 (isInstance (.ref a) (.type "ValueError")) true := (show PySem.W.InstAt h2 a _ C none from ⟨k2' _ _ ho, rfl, rfl, trivial⟩).type.andThen (PySem.W.looks_subIn K2 IA.sub)
  have hxC : a ≠ C := fun z => by
    have := k2' _ _ ho
    rw [z, K2 _ _ hC] at this
    cases this
  refine PySem.W.kxs_getMethod PySem.W.kxs_ValueError es (PySem.W.looks_opaque K2 IA.tp) (fun A Q E s k q => wpAny_bind ((PySem.W.looks_clsIn K2 hcl) A _ E s k (wpAny_pure q))) rfl K2 hsup hI hxC rfl ?_
  have I3 : Inv X [] (NdefX.startF ["self", fn, "__class__"] [.ref a, x] [none]) H { s with heap := h2.push (PySem.W.kxs_mw "ValueError.__init__" a), toks := s.toks + ((["self", fn] : List Str).zip [Value.ref a, u1]).length + 1 } := I2.kept (t' := s.toks + ((["self", fn] : List Str).zip [Value.ref a, u1]).length + 1) fun b o e => Heap.get?_push_of_some _ e
  have pself : ∀ p, PE X (.Name "self" p) (tVar 0) := fun p => pe_var (by rw [hN]; rfl) (.inl k3)
  have pfn : ∀ p, PE X (.Name fn p) (tVar 1) := fun p => pe_var (by rw [hN]; rfl) (.inl k4) hd1 hd2
  have ePA : PA X [.Name fn p3] (tCons (tVar 1) tNil) := pa_cons (pfn p3) pa_nil
  have hu : (h2.push (PySem.W.kxs_mw "ValueError.__init__" a)).get? h2.objs.size = some (PySem.W.kxs_mw "ValueError.__init__" a) := Heap.get?_push_at rfl rfl
  show wpAny (model X.prog X.w) X.A (callWith p4 (.ref h2.objs.size) [] (backTo p4 (starEach [.Name fn p3] X.env)) []) _ _ _
  refine PySem.W.kxs_callWith (i := "ValueError.__init__") (x := a) rfl ?_
  refine Calls.evalArgs_plain ?_
  show wpAny (model X.prog X.w) X.A (spliced (backTo p4 (starEach [.Name fn p3] X.env))) _ _ _
  have I3p : Inv X [(h2.objs.size, PySem.W.kxs_mw "ValueError.__init__" a)] (NdefX.startF ["self", fn, "__class__"] [.ref a, x] [none]) H { s with heap := h2.push (PySem.W.kxs_mw "ValueError.__init__" a), toks := s.toks + ((["self", fn] : List Str).zip [Value.ref a, u1]).length + 1 } :=
    I3.pins_of fun p hp => by
      have e : p = (h2.objs.size, PySem.W.kxs_mw "ValueError.__init__" a) := by simpa using hp
      subst e
      exact ⟨hu, I2.hok.fresh (Nat.le_refl _), Nat.ne_of_gt I2.lt, I2.nofs (Nat.le_refl _), fun v z => nomatch z⟩
  refine wpAny_mono (ePA.run p4 _ _ _ H (fun vs H1 => vs = [x] ∧ H1 = H) I3p ⟨x, rfl, rfl, rfl⟩) (fun us4 s4 h4 => ?_) fun _ _ z => z
  obtain ⟨vs4, H4, I4, r4, e4, eH⟩ := h4
  subst e4 eH
  refine ⟨(I4.pin _ (List.mem_append_right _ (List.mem_singleton.mpr rfl))).1, ?_⟩
  have hlen : us4.length ≤ sizeLine := by
    rw [← r4.length, sizeLine_eq]
    simp
  obtain ⟨t4, ho4⟩ := exo_at I4.hok ha
  have hu4 := (I4.pin _ (List.mem_append_right _ (List.mem_singleton.mpr rfl))).1
  obtain ⟨hp4, g4, d4, tk4, os4⟩ := s4
  refine superCall (I4.kIn _ _ hC) ho4 hu4 hlen fun h5 t5 k5' he5 => ?_
  have J := (I4.pins_of (pins' := []) fun p hp => by cases hp).write (t' := tk4) (x := a) (e := a) (o := exo a C none) (by rw [ha]; exact True.intro) (.inl rfl) k5' ⟨_, he5⟩ (exo_ok he5)
  have eu : upd H4 a (exo a C none) = H4 := by
    funext b
    by_cases hb : b = a
    · rw [hb, upd_same, ha]
    · rw [upd_ne hb]
  rw [eu] at J
  show _root_.PySem.wpAt _ _ _ _ _ _ _
  refine wpAt_of_wpAny ?_
  refine (pss_one (ps_ost (f := fn) (pself q1) (pfn q3))).run [] _ _ H4 { nx := fun _ H' => Q .non H', rt := Q } J ?_
  refine ⟨x, rfl, .ref a, rfl, a, C, rfl, IA.oex, IA.no fn (by simp), .inl ⟨ha, fun dx h1 h2 => hq dx h1 h2⟩⟩
end Bk
/-! E1: the values, the small language, its evaluator. -/
namespace Bk
open PySem PySem.Spec PyProof.Rows L2

abbrev D := PyData

inductive Rs (α : Type) where
  | ok (a : α)
  | er (c : Str) (xs : List (Str × D))
  | st

def Rs.bind {α β : Type} : Rs α → (α → Rs β) → Rs β
  | .ok a, f => f a
  | .er c xs, _ => .er c xs
  | .st, _ => .st
@[simp] theorem Rs.bind_ok {α β : Type} (a : α) (f : α → Rs β) : (Rs.ok a).bind f = f a := rfl
@[simp] theorem Rs.bind_er {α β : Type} (c : Str) (xs : List (Str × D)) (f : α → Rs β) : (Rs.er c xs).bind f = .er c xs := rfl
@[simp] theorem Rs.bind_st {α β : Type} (f : α → Rs β) : (Rs.st : Rs α).bind f = .st := rfl
theorem Rs.bind_eq_ok {α β : Type} {r : Rs α} {f : α → Rs β} {b : β} (h : r.bind f = .ok b) : ∃ a, r = .ok a ∧ f a = .ok b := by
  cases r with
  | ok a => exact ⟨a, rfl, h⟩
  | er c xs => cases h
  | st => cases h
/-- an error becomes no answer -/
def Rs.calm {α : Type} : Rs α → Rs α
  | .ok a => .ok a
  | _ => .st
@[simp] theorem Rs.calm_ok {α : Type} (a : α) : (Rs.ok a).calm = .ok a := rfl
theorem Rs.calm_eq_ok {α : Type} {r : Rs α} {a : α} (h : r.calm = .ok a) : r = .ok a := by
  cases r with
  | ok b => exact h
  | er c xs => cases h
  | st => cases h

/-- what a name holds: a value that nobody changes, or a list or dict that the name alone owns -/
inductive Sl where
  | v (d : D)
  | o (d : D)
abbrev Vn := List (Option Sl)

def gt : Vn → Nat → Option Sl
  | [], _ => none
  | x :: _, 0 => x
  | _ :: r, i + 1 => gt r i
@[simp] theorem gt_zero (x : Option Sl) (r : Vn) : gt (x :: r) 0 = x := rfl
@[simp] theorem gt_succ (x : Option Sl) (r : Vn) (i : Nat) : gt (x :: r) (i + 1) = gt r i := rfl
def pt : Vn → Nat → Option Sl → Vn
  | [], _, _ => []
  | _ :: r, 0, y => y :: r
  | x :: r, i + 1, y => x :: pt r i y
@[simp] theorem pt_zero (x : Option Sl) (r : Vn) (y : Option Sl) : pt (x :: r) 0 y = y :: r := rfl
@[simp] theorem pt_succ (x : Option Sl) (r : Vn) (i : Nat) (y : Option Sl) : pt (x :: r) (i + 1) y = x :: pt r i y := rfl
theorem pt_set : ∀ (e : Vn) (i : Nat) (y : Option Sl), pt e i y = e.set i y
  | [], _, _ => rfl
  | _ :: _, 0, _ => rfl
  | x :: r, i + 1, y => by rw [pt_succ, pt_set r i y]; rfl
theorem pt_length (e : Vn) (i : Nat) (y : Option Sl) : (pt e i y).length = e.length := by rw [pt_set]; simp
theorem gt_get : ∀ (e : Vn) (i : Nat), gt e i = (e[i]?).join
  | [], _ => rfl
  | _ :: _, 0 => rfl
  | x :: r, i + 1 => by rw [gt_succ, gt_get r i]; rfl
theorem gt_pt_same : ∀ (e : Vn) (i : Nat) (y : Option Sl), i < e.length → gt (pt e i y) i = y
  | [], _, _, h => absurd h (Nat.not_lt_zero _)
  | _ :: _, 0, _, _ => rfl
  | x :: r, i + 1, y, h => by rw [pt_succ, gt_succ]; exact gt_pt_same r i y (Nat.lt_of_succ_lt_succ h)
theorem gt_pt_ne : ∀ (e : Vn) (i j : Nat) (y : Option Sl), i ≠ j → gt (pt e i y) j = gt e j
  | [], _, _, _, _ => rfl
  | _ :: _, 0, 0, _, h => absurd rfl h
  | _ :: _, 0, _ + 1, _, _ => rfl
  | _ :: _, _ + 1, 0, _, _ => rfl
  | x :: r, i + 1, j + 1, y, h => by rw [pt_succ, gt_succ, gt_succ]; exact gt_pt_ne r i j y (fun q => h (by rw [q]))
/-- forget slots -/
def kil : List Nat → Vn → Vn
  | [], e => e
  | i :: is, e => kil is (pt e i none)
@[simp] theorem kil_nil (e : Vn) : kil [] e = e := rfl
@[simp] theorem kil_cons (i : Nat) (is : List Nat) (e : Vn) : kil (i :: is) e = kil is (pt e i none) := rfl
theorem kil_length : ∀ (is : List Nat) (e : Vn), (kil is e).length = e.length
  | [], _ => rfl
  | i :: is, e => by rw [kil_cons, kil_length is, pt_length]
/-- a slot's value, when nobody changes it -/
def vl : Option Sl → Rs D
  | some (.v d) => .ok d
  | _ => .st
@[simp] theorem vl_v (d : D) : vl (some (.v d)) = .ok d := rfl
/-- the owned list or dict of a slot -/
def ow : Option Sl → Rs D
  | some (.o d) => .ok d
  | _ => .st
@[simp] theorem ow_o (d : D) : ow (some (.o d)) = .ok d := rfl
def isOwn : Option Sl → Bool
  | some (.o _) => true
  | _ => false
@[simp] theorem isOwn_v (d : D) : isOwn (some (.v d)) = false := rfl
@[simp] theorem isOwn_o (d : D) : isOwn (some (.o d)) = true := rfl
@[simp] theorem isOwn_none : isOwn none = false := rfl

/-! ### the language -/
inductive Bi where
  | len | list | tuple | int | str | max2 | min2 | max | min | sum | bool
  deriving DecidableEq
inductive Mt where
  | join | split
  deriving DecidableEq
inductive Ty where
  | int | bool | str | list | tuple | dict
  deriving DecidableEq
mutual
inductive Tg where
  | nm (i : Nat)
  | tp (ts : Tgs)
inductive Tgs where
  | nil
  | cons (t : Tg) (r : Tgs)
end
mutual
inductive Xp where
  | var (i : Nat)
  | pk (i : Nat)
  | non
  | bl (b : Bool)
  | int (i : Int)
  | str (x : Str)
  | glo (j : Nat)
  | bin (op : Operator) (a b : Xp)
  | neg (a : Xp)
  | nt (a : Xp)
  | bo (op : BoolOp) (as : Xps)
  | ife (c a b : Xp)
  | cmp (op : CmpOp) (a b : Xp)
  | cmp2 (op op2 : CmpOp) (a b c : Xp)
  | tup (as : Xps)
  | lst (as : Xps)
  | ix (a b : Xp)
  | sl (a : Xp) (lo hi : Xo)
  | rev (a : Xp)
  | call (j : Nat) (as : Xps)
  | callL (j : Nat) (as : Xps)
  | bi (f : Bi) (as : Xps)
  | bad
  | dnew (t : Bool)
  | ddis (ks : List Key) (as : Xps)
  | dix (a k : Xp)
  | din (neg : Bool) (k a : Xp)
  | mxd (mn : Bool) (a d : Xp)
  | mnk (j : Nat) (a : Xp)
  | qa (al : Bool) (el : Xp) (t : Tg) (w : Wk) (own : List Nat)
  | mt1 (m : Mt) (o a : Xp)
  | isn (a : Xp) (t : Ty)
  | lrg (w : Wk)
  | fv (x : Str)
  | cv (i : Nat) (cs : List (Str × Nat)) (as : Xps)
  | lc (el : Xp) (t : Tg) (w : Wk) (cs : Xps) (own : List Nat)
  | lc2 (el : Xp) (t : Tg) (w : Wk) (cs : Xps) (t2 : Tg) (w2 : Wk) (cs2 : Xps) (own own2 : List Nat)
inductive Xps where
  | nil
  | cons (a : Xp) (r : Xps)
inductive Xo where
  | no
  | so (a : Xp)
inductive Wk where
  | sq (a : Xp)
  | tx (a : Xp)
  | r1 (a : Xp)
  | r2 (a b : Xp)
  | r3 (a b c : Xp)
  | en (a : Xp)
  | zp (a b : Xp)
  | dk (a : Xp)
end
/-- what may raise: a calm term, a call, the one or the other -/
inductive Xr where
  | x (a : Xp)
  | call (j : Nat) (as : Xps)
  | cv (i : Nat) (cs : List (Str × Nat)) (as : Xps)
  | ife (c : Xp) (a b : Xr)
/-- terms of an except clause: the exception's fields -/
inductive Hx where
  | fld (f : Str)
  | var (i : Nat)
  | non
  | bl (b : Bool)
  | int (i : Int)
  | str (x : Str)
  | cmp (op : CmpOp) (a b : Hx)
  | bo (op : BoolOp) (a b : Hx)
  | nt (a : Hx)
  | ife (c a b : Hx)
/-- an except clause's suite -/
inductive Hs where
  | ret (a : Hx)
  | ifr (c a : Hx)
mutual
inductive Sm where
  | ex (a : Xp)
  | set (i : Nat) (a : Xp)
  | setO (i : Nat) (a : Xp)
  | unp (t : Tg) (a : Xp)
  | app (i : Nat) (a : Xp)
  | ext (i : Nat) (a : Xp)
  | puti (i : Nat) (k a : Xp)
  | dput (i : Nat) (k a : Xp)
  | dputT (i : Nat) (ks : Xps) (a : Xp)
  | aug (i : Nat) (op : Operator) (a : Xp)
  | ret (a : Xp)
  | retn
  | ifs (c : Xp) (a b : Sms)
  | fors (t : Tg) (w : Wk) (body : Sms) (kl : List Nat)
  | whl (n : Nat) (c : Xp) (body : Sms) (kl : List Nat)
  | brk
  | cnt
  | pas
  | bad
  | setX (i : Nat) (r : Xr)
  | retX (r : Xr)
  | exX (r : Xr)
  | unpX (t : Tg) (r : Xr)
  | rai (c : Str) (fs : List Str) (as : Xps)
  | par (is : List Nat) (as : Xps)
  | trc (body : Sms) (c : Str) (os : List Str) (i : Nat) (h : Hs)
inductive Sms where
  | nil
  | cons (s : Sm) (r : Sms)
  | frz (i : Nat) (r : Sms)
  | kill (is : List Nat) (r : Sms)
end

/-! ### the operations -/
/-- a def of the module as a value -/
def fnD (x : Str) : D := .dict [(.bool true, .str x)]
def isFnD (x : Str) : D → Bool
  | .dict [(.bool true, .str y)] => decide (x = y)
  | _ => false
/-- numbers, truth, text, nothing -/
def flat0 : D → Bool
  | .none => true
  | .bool _ => true
  | .int _ => true
  | .str _ => true
  | _ => false
/-- data without dicts, at most n deep -/
def shp : Nat → D → Bool
  | _, .none => true
  | _, .bool _ => true
  | _, .int _ => true
  | _, .str _ => true
  | 0, _ => false
  | n + 1, .list xs => xs.all (shp n)
  | n + 1, .tuple xs => xs.all (shp n)
  | _ + 1, .dict _ => false
def nd : D → Bool
  | .dict _ => false
  | _ => true
def eqD (a b : D) : Rs Bool := if shp 12 a && shp 12 b then .ok (PyData.eqv a b) else .st
def inD (x : D) : D → Rs Bool
  | .list ys => if shp 12 x && ys.all (shp 12) then .ok (ys.any fun y => PyData.eqv y x) else .st
  | .tuple ys => if shp 12 x && ys.all (shp 12) then .ok (ys.any fun y => PyData.eqv y x) else .st
  | _ => .st
def tru : D → Rs Bool
  | .none => .ok false
  | .bool b => .ok b
  | .int i => .ok (i != 0)
  | .str x => if x.length ≤ 16777216 then .ok ((x.length : Int) != 0) else .st
  | .list xs => .ok (!xs.isEmpty)
  | .tuple xs => .ok (!xs.isEmpty)
  | _ => .st
def binD : Operator → D → D → Rs D
  | .Add, .int i, .int j => .ok (.int (i + j))
  | .Add, .str x, .str y => if x.length + y.length ≤ 16777216 then .ok (.str (x ++ y)) else .st
  | .Add, .list xs, .list ys => if xs.length + ys.length ≤ 16777216 then .ok (.list (xs ++ ys)) else .st
  | .Add, .tuple xs, .tuple ys => if xs.length + ys.length ≤ 16777216 then .ok (.tuple (xs ++ ys)) else .st
  | .Sub, .int i, .int j => .ok (.int (i - j))
  | .Mult, .int i, .int j => if (decide (-18446744073709551616 < i) && decide (i < 18446744073709551616)) || (decide (-18446744073709551616 < j) && decide (j < 18446744073709551616)) then .ok (.int (i * j)) else .st
  | .Mult, .tuple xs, .int k => if !xs.isEmpty && decide (1 ≤ k) && decide (k ≤ 1000) && decide (xs.length ≤ 1000) then .ok (.tuple (List.replicate k.toNat xs).flatten) else .st
  | .FloorDiv, .int i, .int j => if decide (0 < j) && decide (j < 1073741824) then .ok (.int (i / j)) else .st
  | .Mod, .int i, .int j => if 0 < j then .ok (.int (i % j)) else .st
  | .Pow, .int i, .int j => if decide (0 ≤ j) && decide (j ≤ 1000000) && decide (i.natAbs < 18446744073709551616) then .ok (.int (i ^ j.toNat)) else .st
  | _, _, _ => .st
/-- x op= y, numbers alone -/
def augD : Operator → D → D → Rs D
  | .Add, .int i, .int j => .ok (.int (i + j))
  | _, _, _ => .st
def isNon : D → Bool
  | .none => true
  | _ => false
/-- a < b of data of one shape -/
def lessD (a b : D) : Rs Bool := if shp 12 a && shp 12 b && PySem.W.alike a b && !isNon a then .ok (PySem.W.dataLt a b) else .st
def cmpD : CmpOp → D → D → Rs Bool
  | .Eq, a, b => eqD a b
  | .NotEq, a, b => (eqD a b).bind fun c => .ok (!c)
  | .Lt, .int i, .int j => .ok (decide (i < j))
  | .LtE, .int i, .int j => .ok (decide (i ≤ j))
  | .LtE, .str i, .str j => .ok (!decide (j.cps.toList < i.cps.toList))
  | .Gt, .int i, .int j => .ok (decide (j < i))
  | .GtE, .int i, .int j => .ok (decide (j ≤ i))
  | .Lt, .tuple i, .tuple j => lessD (.tuple i) (.tuple j)
  | .Is, .none, .none => .ok true
  | .Is, .bool a, .bool b => .ok (a == b)
  | .Is, _, .none => .ok false
  | .IsNot, .none, .none => .ok false
  | .IsNot, _, .none => .ok true
  | .In, x, ys => inD x ys
  | .NotIn, x, ys => (inD x ys).bind fun c => .ok (!c)
  | _, _, _ => .st
/-- the place that an index tells -/
def at' {α : Type} (xs : List α) (i : Int) : Option α := if 0 ≤ i then xs[i.toNat]? else if 0 ≤ i + xs.length then xs[(i + xs.length).toNat]? else none
def ixD : D → D → Rs D
  | .list xs, .int i => match at' xs i with
    | some x => .ok x
    | none => .st
  | .tuple xs, .int i => match at' xs i with
    | some x => .ok x
    | none => .st
  | .str x, .int i => if x.length ≤ 16777216 then (match at' x.cps.toList i with
    | some c => .ok (.str ⟨#[c]⟩)
    | none => .st) else .st
  | _, _ => .st
/-- the bounds of a slice -/
def bnd (n d : Nat) : Option Int → Nat
  | none => d
  | some i => if i < 0 then (i + n).toNat else min i.toNat n
def cut {α : Type} (xs : List α) (lo hi : Option Int) : List α := (xs.drop (bnd xs.length 0 lo)).take (bnd xs.length xs.length hi - bnd xs.length 0 lo)
def slD : D → Option Int → Option Int → Rs D
  | .list xs, lo, hi => .ok (.list (cut xs lo hi))
  | .tuple xs, lo, hi => .ok (.tuple (cut xs lo hi))
  | .str z, lo, hi => if z.length ≤ 16777216 then .ok (.str (cutS z lo hi)) else .st
  | _, _, _ => .st
def revD : D → Rs D
  | .list xs => .ok (.list xs.reverse)
  | .tuple xs => .ok (.tuple xs.reverse)
  | _ => .st
def asInt : D → Rs Int
  | .int i => .ok i
  | _ => .st
@[simp] theorem asInt_int (i : Int) : asInt (.int i) = .ok i := rfl
def intsD : List D → Rs (List Int)
  | [] => .ok []
  | .int i :: r => (intsD r).bind fun is => .ok (i :: is)
  | _ => .st
def lmax : List Int → Rs D
  | [] => .st
  | i :: is => .ok (.int (is.foldl max i))
def lmin : List Int → Rs D
  | [] => .st
  | i :: is => .ok (.int (is.foldl min i))
/-- the least of alike data -/
def alikesB (xs : List D) : Bool := xs.all fun x => xs.all fun y => PySem.W.alike x y
def minDD (x : D) (xs : List D) : Rs D := if (x :: xs).all (shp 11) && (alikesB (x :: xs) && (x :: xs).all fun y => !isNon y) then .ok (PySem.W.minD x xs) else .st
def minA : List D → Rs D
  | .tuple a :: xs => minDD (.tuple a) xs
  | xs => (intsD xs).bind lmin
def biD : Bi → List D → Rs D
  | .len, [.list xs] => .ok (.int xs.length)
  | .len, [.tuple xs] => .ok (.int xs.length)
  | .len, [.str x] => if x.length ≤ 16777216 then .ok (.int x.length) else .st
  | .list, [.list xs] => .ok (.list xs)
  | .list, [.tuple xs] => .ok (.list xs)
  | .tuple, [.list xs] => .ok (.tuple xs)
  | .tuple, [.tuple xs] => .ok (.tuple xs)
  | .int, [.int i] => .ok (.int i)
  | .int, [.str a] => match PySem.intText? a with
    | some n => if a.length ≤ 640 then .ok (.int n) else .st
    | none => .st
  | .bool, [.bool b] => .ok (.bool b)
  | .str, [.int i] => if i.natAbs.log2 < 1920 then .ok (.str (toString i)) else .st
  | .max2, [.int i, .int j] => .ok (.int (if j > i then j else i))
  | .min2, [.int i, .int j] => .ok (.int (if j < i then j else i))
  | .max, [.list xs] => (intsD xs).bind lmax
  | .min, [.list xs] => minA xs
  | .sum, [.list xs] => (intsD xs).bind fun is => .ok (.int is.sum)
  | .sum, [.tuple xs] => (intsD xs).bind fun is => .ok (.int is.sum)
  | _, _ => .st
/-- keys: numbers and texts, tuples of them; a dict whose keys are tuples begins with a pair of its own -/
def isK : D → Bool
  | .int _ => true
  | .str _ => true
  | _ => false
def isKT : D → Bool
  | .tuple xs => xs.all isK
  | _ => false
def dLook (ps : List (D × D)) (k : D) : Option D := (ps.find? fun p => PyData.eqv p.1 k).map (·.2)
def dSet (ps : List (D × D)) (k v : D) : List (D × D) := if ps.any (fun p => PyData.eqv p.1 k) then ps.map (fun p => if PyData.eqv p.1 k then (p.1, v) else p) else ps ++ [(k, v)]
def tagD : D × D := (.none, .none)
def dicG : D → D → Option (Option D)
  | .dict ((.none, .none) :: ps), k => if isKT k then some (dLook ps k) else none
  | .dict ((.bool _, _) :: _), _ => none
  | .dict ps, k => if isK k then some (dLook ps k) else none
  | _, _ => none
def keyD : Key → D
  | .inl i => .int i
  | .inr x => .str x
def dBuild : List Key → List D → List (D × D) → List (D × D)
  | k :: ks, d :: ds, acc => dBuild ks ds (dSet acc (keyD k) d)
  | _, _, acc => acc
def dixD (x k : D) : Rs D := match dicG x k with
  | some (some v) => .ok v
  | _ => .st
def dinD (neg : Bool) (k x : D) : Rs D := match dicG x k with
  | some o => .ok (.bool (if neg then !o.isSome else o.isSome))
  | none => .st
def dputD (nw : Bool) (k v : D) : D → Rs D
  | .dict ((.none, .none) :: ps) => if isKT k && (nw || (dLook ps k).isSome) && decide (ps.length < 16777216) then .ok (.dict (tagD :: dSet ps k v)) else .st
  | .dict ps => if isK k && decide (ps.length < 16777216) then .ok (.dict (dSet ps k v)) else .st
  | _ => .st
mutual
/-- numbers, truth, text, nothing; tuples of them -/
def flatB : D → Bool
  | .none => true
  | .bool _ => true
  | .int _ => true
  | .str _ => true
  | .tuple xs => flatBs xs
  | _ => false
def flatBs : List D → Bool
  | [] => true
  | x :: xs => flatB x && flatBs xs
end
def flatD (d : D) : Rs D := if flatB d then .ok d else .st
def strsD : List D → Rs (List Str)
  | [] => .ok []
  | .str i :: r => (strsD r).bind fun is => .ok (i :: is)
  | _ => .st
def joinD (a : Str) (xs : List D) : Rs D := (strsD xs).bind fun ys => if (ys.map (·.length)).sum + ys.length * a.length ≤ 16777216 then .ok (.str (Str.join a ys)) else .st
def mtD : Mt → D → D → Rs D
  | .join, .str a, .list xs => joinD a xs
  | .join, .str a, .tuple xs => joinD a xs
  | .split, .str a, .str b => if !(b.length == 0) && decide (a.length + 2 ≤ 16777216) then .ok (.list ((Txt.split a b).map .str)) else .st
  | _, _, _ => .st
def bestD (mn : Bool) : List Int → D → Rs D
  | [], d => .ok d
  | i :: is, _ => .ok (.int (if mn then is.foldl min i else is.foldl max i))
def mxA (mn : Bool) : List D → D → Rs D
  | .tuple a :: xs, _ => if mn then minDD (.tuple a) xs else .st
  | xs, d => (intsD xs).bind fun is => bestD mn is d
def mxdD (mn : Bool) : D → D → Rs D
  | .list xs, d => mxA mn xs d
  | _, _ => .st
/-- the first item whose key is the least -/
def mnkR (f : List D → Rs D) : D → D → List D → Rs D
  | b, _, [] => .ok b
  | b, kb, x :: xs => (f [x]).bind fun k => (lessD k kb).bind fun c => if c then mnkR f x k xs else mnkR f b kb xs
def mnkD (f : List D → Rs D) : D → Rs D
  | .list (x :: xs) => (f [x]).bind fun k => mnkR f x k xs
  | _ => .st
def isnD : D → Ty → Bool
  | .int _, .int => true
  | .bool _, .int => true
  | .bool _, .bool => true
  | .str _, .str => true
  | .list _, .list => true
  | .tuple _, .tuple => true
  | .dict _, .dict => true
  | _, _ => false
def rng (lo : Int) (n : Nat) : List D := (List.range n).map fun (k : Nat) => .int (lo + (k : Int))
def okR (i : Int) : Bool := decide (-16777216 ≤ i) && decide (i ≤ 16777216)
def seqD : D → Rs (List D)
  | .list xs => .ok xs
  | .tuple xs => .ok xs
  | _ => .st
/-- the keys of a dict, in their order -/
def keysD : D → Rs (List D)
  | .dict ((.none, .none) :: ps) => .ok (ps.map (·.1))
  | _ => .st
def enumFrom (k : Nat) : List D → List D
  | [] => []
  | x :: xs => .tuple [.int k, x] :: enumFrom (k + 1) xs
def zipD : List D → List D → List D
  | x :: xs, y :: ys => .tuple [x, y] :: zipD xs ys
  | _, _ => []
/-- lists and tuples -/
def zipS : D → D → Rs (List D × List D)
  | .list xs, .list ys => .ok (xs, ys)
  | .list xs, .tuple ys => .ok (xs, ys)
  | .tuple xs, .list ys => .ok (xs, ys)
  | .tuple xs, .tuple ys => .ok (xs, ys)
  | _, _ => .st
def mapR (f : D → Rs (Option D)) : List D → Rs (List D)
  | [] => .ok []
  | x :: xs => (f x).bind fun o => (mapR f xs).bind fun r => .ok (match o with
    | some y => y :: r
    | none => r)
/-- all (al), any: the first item that answers otherwise ends it -/
def qaR (al : Bool) (f : D → Rs Bool) : List D → Rs Bool
  | [] => .ok al
  | x :: xs => (f x).bind fun b => if b == al then qaR al f xs else .ok b
def asBool : D → Rs Bool
  | .bool b => .ok b
  | _ => .st
@[simp] theorem asBool_bool (b : Bool) : asBool (.bool b) = .ok b := rfl
/-- one behind the other, lists joined -/
def catR (f : D → Rs (List D)) : List D → Rs (List D)
  | [] => .ok []
  | x :: xs => (f x).bind fun o => (catR f xs).bind fun r => .ok (o ++ r)

mutual
def asg : Tg → D → Vn → Rs Vn
  | .nm i, d, e => .ok (pt e i (some (.v d)))
  | .tp ts, .tuple ds, e => asgs ts ds e
  | .tp _, _, _ => .st
def asgs : Tgs → List D → Vn → Rs Vn
  | .nil, [], e => .ok e
  | .cons t r, d :: ds, e => (asg t d e).bind fun e' => asgs r ds e'
  | _, _, _ => .st
end

/-- what the defs and the module's constants are -/
structure Cn where
  fn : Nat → List D → Rs D
  gl : Nat → Rs D

/-- the def that d is -/
def pickC (C : Cn) : List (Str × Nat) → D → List D → Rs D
  | [], _, _ => .st
  | (x, j) :: r, d, xs => if isFnD x d then C.fn j xs else pickC C r d xs
def andB : BoolOp → Bool
  | .And => true
  | .Or => false

mutual
def ev (C : Cn) : Xp → Vn → Rs D
  | .var i, e => vl (gt e i)
  | .pk i, e => ow (gt e i)
  | .non, _ => .ok .none
  | .bl b, _ => .ok (.bool b)
  | .int i, _ => .ok (.int i)
  | .str x, _ => .ok (.str x)
  | .glo j, _ => C.gl j
  | .bin op a b, e => (ev C a e).bind fun x => (ev C b e).bind fun y => binD op x y
  | .neg a, e => (ev C a e).bind fun x => (asInt x).bind fun i => .ok (.int (-i))
  | .nt a, e => (ev C a e).bind fun x => (tru x).bind fun c => .ok (.bool (!c))
  | .bo op as, e => evb C op as e
  | .ife c a b, e => (ev C c e).bind fun x => (tru x).bind fun k => if k then ev C a e else ev C b e
  | .cmp op a b, e => (ev C a e).bind fun x => (ev C b e).bind fun y => (cmpD op x y).bind fun c => .ok (.bool c)
  | .cmp2 op op2 a b c, e => (ev C a e).bind fun x => (ev C b e).bind fun y => (cmpD op x y).bind fun k =>
      if k then (ev C c e).bind fun z => (cmpD op2 y z).bind fun k2 => .ok (.bool k2) else .ok (.bool false)
  | .tup as, e => (evs C as e).bind fun xs => .ok (.tuple xs)
  | .lst as, e => (evs C as e).bind fun xs => .ok (.list xs)
  | .ix a b, e => (ev C a e).bind fun x => (ev C b e).bind fun y => ixD x y
  | .sl a lo hi, e => (ev C a e).bind fun x => (evo C lo e).bind fun l => (evo C hi e).bind fun h => slD x l h
  | .rev a, e => (ev C a e).bind fun x => revD x
  | .call j as, e => (evs C as e).bind fun xs => C.fn j xs
  | .callL j as, e => (evs C as e).bind fun xs => if xs.all nd then (C.fn j xs).bind flatD else .st
  | .bi f as, e => (evs C as e).bind fun xs => biD f xs
  | .bad, _ => .st
  | .dnew t, _ => .ok (.dict (if t then [tagD] else []))
  | .ddis ks as, e => (evs C as e).bind fun xs => if ks.length = xs.length ∧ ks.length ≤ 15 then .ok (.dict (dBuild ks xs [])) else .st
  | .dix a k, e => (ev C a e).bind fun x => (ev C k e).bind fun y => dixD x y
  | .din neg k a, e => (ev C k e).bind fun y => (ev C a e).bind fun x => dinD neg y x
  | .mxd mn a d, e => (ev C a e).bind fun x => (ev C d e).bind fun z => mxdD mn x z
  | .mnk j a, e => (ev C a e).bind fun x => mnkD (C.fn j) x
  | .qa al el t w own, e => if own.any (fun i => isOwn (gt e i)) then .st else (evw C w e).bind fun xs =>
      ((qaR al (fun x => (asg t x (kil own e)).bind fun e2 => (ev C el e2).bind asBool) xs).calm).bind fun b => .ok (.bool b)
  | .mt1 m o a, e => (ev C o e).bind fun x => (ev C a e).bind fun y => mtD m x y
  | .isn a t, e => (ev C a e).bind fun x => if nd x then .ok (.bool (isnD x t)) else .st
  | .lrg w, e => (evw C w e).bind fun xs => .ok (.list xs)
  | .fv x, _ => .ok (fnD x)
  | .cv i cs as, e => (evs C as e).bind fun xs => (vl (gt e i)).bind fun d => pickC C cs d xs
  | .lc el t w cs own, e => if own.any (fun i => isOwn (gt e i)) then .st else (evw C w e).bind fun xs =>
      ((mapR (fun x => (asg t x (kil own e)).bind fun e2 => (evc C cs e2).bind fun k => if k then (ev C el e2).bind fun y => .ok (some y) else .ok none) xs).calm).bind fun ys => .ok (.list ys)
  | .lc2 el t w cs t2 w2 cs2 own own2, e => if own.any (fun i => isOwn (gt e i)) then .st else (evw C w e).bind fun xs =>
      ((catR (fun x => (asg t x (kil own e)).bind fun e2 => (evc C cs e2).bind fun k => if k then (evw C w2 e2).bind fun zs =>
          mapR (fun z => (asg t2 z (kil own2 e2)).bind fun e3 => (evc C cs2 e3).bind fun k2 => if k2 then (ev C el e3).bind fun y => .ok (some y) else .ok none) zs else .ok []) xs).calm).bind fun ys =>
        if ys.length ≤ 16777216 then .ok (.list ys) else .st
def evs (C : Cn) : Xps → Vn → Rs (List D)
  | .nil, _ => .ok []
  | .cons a r, e => (ev C a e).bind fun x => (evs C r e).bind fun xs => .ok (x :: xs)
def evb (C : Cn) (op : BoolOp) : Xps → Vn → Rs D
  | .nil, _ => .st
  | .cons a .nil, e => ev C a e
  | .cons a r, e => (ev C a e).bind fun x => (tru x).bind fun k => if k == andB op then evb C op r e else .ok x
/-- all tests of a comprehension (none or one) -/
def evc (C : Cn) : Xps → Vn → Rs Bool
  | .nil, _ => .ok true
  | .cons a .nil, e => (ev C a e).bind tru
  | _, _ => .st
def evo (C : Cn) : Xo → Vn → Rs (Option Int)
  | .no, _ => .ok none
  | .so a, e => (ev C a e).bind fun x => (asInt x).bind fun i => .ok (some i)
def evw (C : Cn) : Wk → Vn → Rs (List D)
  | .sq a, e => (ev C a e).bind seqD
  | .tx a, e => (ev C a e).bind fun x => match x with
      | .str z => if z.length ≤ 16777216 then .ok (z.cps.toList.map fun c => .str ⟨#[c]⟩) else .st
      | _ => .st
  | .r1 a, e => (ev C a e).bind fun x => (asInt x).bind fun i => if okR i then .ok (rng 0 i.toNat) else .st
  | .r2 a b, e => (ev C a e).bind fun x => (ev C b e).bind fun y => (asInt x).bind fun i => (asInt y).bind fun j => if okR i && okR j && okR (j - i) then .ok (rng i (j - i).toNat) else .st
  | .r3 _ _ _, _ => .st
  | .en a, e => (ev C a e).bind fun x => (seqD x).bind fun xs => .ok (enumFrom 0 xs)
  | .zp a b, e => (ev C a e).bind fun x => (ev C b e).bind fun y => (zipS x y).bind fun p => .ok (zipD p.1 p.2)
  | .dk a, e => (ev C a e).bind keysD
end

/-! ### statements -/
inductive Ot where
  | nx (e : Vn)
  | rt (d : D)
  | bk (e : Vn)
  | ct (e : Vn)
  | er (c : Str) (xs : List (Str × D)) (e : Vn)
  | st
/-- an expression ahead of a statement's own work -/
def Rs.to {α : Type} (r : Rs α) (e : Vn) (f : α → Ot) : Ot :=
  match r with
  | .ok a => f a
  | .er _ _ => .st
  | .st => .st
@[simp] theorem Rs.to_ok {α : Type} (a : α) (e : Vn) (f : α → Ot) : (Rs.ok a).to e f = f a := rfl
@[simp] theorem Rs.to_er {α : Type} (c : Str) (xs : List (Str × D)) (e : Vn) (f : α → Ot) : (Rs.er c xs).to e f = .st := rfl
@[simp] theorem Rs.to_st {α : Type} (e : Vn) (f : α → Ot) : (Rs.st : Rs α).to e f = .st := rfl
/-- .. that may raise -/
def Rs.toX {α : Type} (r : Rs α) (e : Vn) (f : α → Ot) : Ot :=
  match r with
  | .ok a => f a
  | .er c xs => .er c xs e
  | .st => .st
@[simp] theorem Rs.toX_ok {α : Type} (a : α) (e : Vn) (f : α → Ot) : (Rs.ok a).toX e f = f a := rfl
@[simp] theorem Rs.toX_er {α : Type} (c : Str) (xs : List (Str × D)) (e : Vn) (f : α → Ot) : (Rs.er c xs).toX e f = .er c xs e := rfl
@[simp] theorem Rs.toX_st {α : Type} (e : Vn) (f : α → Ot) : (Rs.st : Rs α).toX e f = .st := rfl
/-- an exception is caught -/
def Ot.catch (o : Ot) (f : Str → List (Str × D) → Vn → Ot) : Ot :=
  match o with
  | .er c xs e => f c xs e
  | o => o
@[simp] theorem Ot.catch_nx (e : Vn) (f : Str → List (Str × D) → Vn → Ot) : (Ot.nx e).catch f = .nx e := rfl
@[simp] theorem Ot.catch_rt (d : D) (f : Str → List (Str × D) → Vn → Ot) : (Ot.rt d).catch f = .rt d := rfl
@[simp] theorem Ot.catch_bk (e : Vn) (f : Str → List (Str × D) → Vn → Ot) : (Ot.bk e).catch f = .bk e := rfl
@[simp] theorem Ot.catch_ct (e : Vn) (f : Str → List (Str × D) → Vn → Ot) : (Ot.ct e).catch f = .ct e := rfl
@[simp] theorem Ot.catch_er (c : Str) (xs : List (Str × D)) (e : Vn) (f : Str → List (Str × D) → Vn → Ot) : (Ot.er c xs e).catch f = f c xs e := rfl
@[simp] theorem Ot.catch_st (f : Str → List (Str × D) → Vn → Ot) : Ot.st.catch f = .st := rfl
def Ot.then (o : Ot) (f : Vn → Ot) : Ot :=
  match o with
  | .nx e => f e
  | o => o
@[simp] theorem Ot.then_nx (e : Vn) (f : Vn → Ot) : (Ot.nx e).then f = f e := rfl
@[simp] theorem Ot.then_rt (d : D) (f : Vn → Ot) : (Ot.rt d).then f = .rt d := rfl
@[simp] theorem Ot.then_bk (e : Vn) (f : Vn → Ot) : (Ot.bk e).then f = .bk e := rfl
@[simp] theorem Ot.then_ct (e : Vn) (f : Vn → Ot) : (Ot.ct e).then f = .ct e := rfl
@[simp] theorem Ot.then_er (c : Str) (xs : List (Str × D)) (e : Vn) (f : Vn → Ot) : (Ot.er c xs e).then f = .er c xs e := rfl
@[simp] theorem Ot.then_st (f : Vn → Ot) : Ot.st.then f = .st := rfl
/-- a turn's end: on with the loop, out of it, or out of the def -/
def Ot.turn (o : Ot) (kl : List Nat) (f : Vn → Ot) : Ot :=
  match o with
  | .nx e => f (kil kl e)
  | .ct e => f (kil kl e)
  | .bk e => .nx e
  | o => o
@[simp] theorem Ot.turn_nx (e : Vn) (kl : List Nat) (f : Vn → Ot) : (Ot.nx e).turn kl f = f (kil kl e) := rfl
@[simp] theorem Ot.turn_ct (e : Vn) (kl : List Nat) (f : Vn → Ot) : (Ot.ct e).turn kl f = f (kil kl e) := rfl
@[simp] theorem Ot.turn_bk (e : Vn) (kl : List Nat) (f : Vn → Ot) : (Ot.bk e).turn kl f = .nx e := rfl
@[simp] theorem Ot.turn_rt (d : D) (kl : List Nat) (f : Vn → Ot) : (Ot.rt d).turn kl f = .rt d := rfl
@[simp] theorem Ot.turn_st (kl : List Nat) (f : Vn → Ot) : Ot.st.turn kl f = .st := rfl
@[simp] theorem Ot.turn_er (c : Str) (xs : List (Str × D)) (e : Vn) (kl : List Nat) (f : Vn → Ot) : (Ot.er c xs e).turn kl f = .er c xs e := rfl
def forR (t : Tg) (kl : List Nat) (body : Vn → Ot) : List D → Vn → Ot
  | [], e => .nx e
  | x :: xs, e => (asg t x e).to e fun e' => (body e').turn kl (forR t kl body xs)
def whlR (kl : List Nat) (c : Vn → Rs Bool) (body : Vn → Ot) : Nat → Vn → Ot
  | 0, _ => .st
  | n + 1, e => (c e).to e fun k => if k then (body e).turn kl (whlR kl c body n) else .nx e
/-- a changed list of the slot -/
def chg (e : Vn) (i : Nat) (f : D → Rs D) : Ot := (ow (gt e i)).to e fun d => (f d).to e fun d' => .nx (pt e i (some (.o d')))
def appD (x : D) : D → Rs D
  | .list xs => if xs.length < 16777216 then .ok (.list (xs ++ [x])) else .st
  | _ => .st
def extD (x : D) : D → Rs D
  | .list xs => (match x with
    | .list ys => if xs.length + ys.length ≤ 16777216 then .ok (.list (xs ++ ys)) else .st
    | _ => .st)
  | _ => .st
def putD (k x : D) : D → Rs D
  | .list xs => (match k with
    | .int i => if 0 ≤ i then (if i < xs.length then .ok (.list (xs.set i.toNat x)) else .st) else (if 0 ≤ i + xs.length then .ok (.list (xs.set (i + xs.length).toNat x)) else .st)
    | _ => .st)
  | _ => .st
def evr (C : Cn) : Xr → Vn → Rs D
  | .x a, e => (ev C a e).calm
  | .call j as, e => (evs C as e).calm.bind fun xs => C.fn j xs
  | .cv i cs as, e => (evs C as e).calm.bind fun xs => (vl (gt e i)).bind fun d => pickC C cs d xs
  | .ife c a b, e => ((ev C c e).bind tru).calm.bind fun k => if k then evr C a e else evr C b e
def fldH (fs : List (Str × D)) (f : Str) : Rs D := match fs.lookup f with
  | some d => .ok d
  | none => .st
def cmpH (op : CmpOp) (x y : D) : Rs D := if flat0 x && flat0 y then (cmpD op x y).bind fun c => .ok (.bool c) else .st
def evH (fs : List (Str × D)) : Hx → Vn → Rs D
  | .fld f, _ => fldH fs f
  | .var i, e => vl (gt e i)
  | .non, _ => .ok .none
  | .bl b, _ => .ok (.bool b)
  | .int i, _ => .ok (.int i)
  | .str x, _ => .ok (.str x)
  | .cmp op a b, e => (evH fs a e).bind fun x => (evH fs b e).bind fun y => cmpH op x y
  | .bo op a b, e => (evH fs a e).bind fun x => (tru x).bind fun k => if k == andB op then evH fs b e else .ok x
  | .nt a, e => (evH fs a e).bind fun x => (tru x).bind fun c => .ok (.bool (!c))
  | .ife c a b, e => (evH fs c e).bind fun x => (tru x).bind fun k => if k then evH fs a e else evH fs b e
def exH (fs : List (Str × D)) : Hs → Vn → Ot
  | .ret a, e => (evH fs a e).to e .rt
  | .ifr c a, e => ((evH fs c e).bind tru).to e fun k => if k then (evH fs a e).to e .rt else .nx e
def parD : List Nat → List D → Vn → Ot
  | [i, j], [x, y], e => .nx (pt (pt e i (some (.v x))) j (some (.v y)))
  | [i, j, l], [x, y, z], e => .nx (pt (pt (pt e i (some (.v x))) j (some (.v y))) l (some (.v z)))
  | _, _, _ => .st
mutual
def ex (C : Cn) : Sm → Vn → Ot
  | .ex a, e => (ev C a e).to e fun _ => .nx e
  | .set i a, e => (ev C a e).to e fun x => .nx (pt e i (some (.v x)))
  | .setO i a, e => (ev C a e).to e fun x => .nx (pt e i (some (.o x)))
  | .unp t a, e => (ev C a e).to e fun x => (asg t x e).to e .nx
  | .app i a, e => (ev C a e).to e fun x => chg e i (appD x)
  | .ext i a, e => (ev C a e).to e fun x => chg e i (extD x)
  | .puti i k a, e => (ev C a e).to e fun x => (ev C k e).to e fun y => chg e i (putD y x)
  | .dput i k a, e => (ev C a e).to e fun x => (ev C k e).to e fun y => chg e i (dputD false y x)
  | .dputT i ks a, e => (ev C a e).to e fun x => (evs C ks e).to e fun ys => chg e i (dputD true (.tuple ys) x)
  | .aug i op a, e => (vl (gt e i)).to e fun x => (ev C a e).to e fun y => (augD op x y).to e fun z => .nx (pt e i (some (.v z)))
  | .ret a, e => (ev C a e).to e .rt
  | .retn, _ => .rt .none
  | .ifs c a b, e => ((ev C c e).bind tru).to e fun k => if k then exs C a e else exs C b e
  | .fors t w body kl, e => (evw C w e).to e fun xs => forR t kl (exs C body) xs (kil kl e)
  | .whl n c body kl, e => whlR kl (fun e => (ev C c e).bind tru) (exs C body) n (kil kl e)
  | .brk, e => .bk e
  | .cnt, e => .ct e
  | .pas, e => .nx e
  | .bad, _ => .st
  | .setX i r, e => (evr C r e).toX e fun x => .nx (pt e i (some (.v x)))
  | .retX r, e => (evr C r e).toX e .rt
  | .exX r, e => (evr C r e).toX e fun _ => .nx e
  | .unpX t r, e => (evr C r e).toX e fun x => (asg t x e).to e .nx
  | .rai c fs as, e => (evs C as e).to e fun xs => if fs.length = xs.length ∧ xs.all flat0 = true then .er c (fs.zip xs) e else .st
  | .par is as, e => (evs C as e).to e fun xs => parD is xs e
  | .trc body c os i h, e => (exs C body e).catch fun c' fs e' => if c' = c then exH fs h (pt e' i none) else if os.contains c' then .er c' fs e' else .st
def exs (C : Cn) : Sms → Vn → Ot
  | .nil, e => .nx e
  | .cons s r, e => (ex C s e).then (exs C r)
  | .frz i r, e => (ow (gt e i)).to e fun d => exs C r (pt e i (some (.v d)))
  | .kill is r, e => exs C r (kil is e)
end
/-- a def: n slots, the parameters first -/
def run (C : Cn) (n : Nat) (body : Sms) (xs : List D) : Rs D :=
  if xs.length ≤ n then
    (match exs C body (xs.map (fun d => some (Sl.v d)) ++ List.replicate (n - xs.length) none) with
    | .nx _ => .ok .none
    | .rt d => .ok d
    | .er c ys _ => .er c ys
    | _ => .st)
  else .st
end Bk
/-! E2: what a value of the heap stands for; the frame's slots; readings. -/
namespace Bk
open PySem PySem.Spec PyProof.Rows L2
abbrev Stt := L2.St
abbrev Fg := PySem.W.Frag

/-- a table of a code object -/
def TbO (o : HO) : Prop := ∃ ps, o = .tbl ps ∧ TriplesOk ps.toList
/-- all that was tracked is as it was; tables may have grown -/
def Same (H H' : Hp) : Prop := ∀ b o, H b = some o → H' b = some o ∨ (TbO o ∧ ∃ o', H' b = some o' ∧ TbO o')
theorem Same.refl (H : Hp) : Same H H := fun _ _ h => .inl h
theorem Same.trans {H H1 H2 : Hp} (a : Same H H1) (b : Same H1 H2) : Same H H2 := fun c o h => by
  rcases a c o h with h1 | ⟨t, o1, h1, t1⟩
  · exact b c o h1
  · rcases b c o1 h1 with h2 | ⟨_, o2, h2, t2⟩
    · exact .inr ⟨t, o1, h2, t1⟩
    · exact .inr ⟨t, o2, h2, t2⟩
theorem Same.is {H H' : Hp} (e : Same H H') {b : Addr} {o : HO} (h : H b = some o) (n : ¬ TbO o) : H' b = some o := (e b o h).resolve_right fun z => n z.1
theorem Same.free {H H' : Hp} (e : Same H H') {l : Addr} (h : H' l = Option.none) : H l = Option.none := by
  cases q : H l with
  | none => rfl
  | some o =>
    rcases e l o q with z | ⟨_, o', z, _⟩ <;> (rw [h] at z; cases z)
theorem ntL {xs : List V} : ¬ TbO (.lst xs) := fun ⟨_, z, _⟩ => nomatch z
theorem ntT {xs : List V} : ¬ TbO (.tup xs) := fun ⟨_, z, _⟩ => nomatch z
theorem ntF {o : Obj} {u : HO} : ¬ TbO (.frz o u) := fun ⟨_, z, _⟩ => nomatch z
theorem ntK {xs : List (Key × V)} : ¬ TbO (.dK xs) := fun ⟨_, z, _⟩ => nomatch z
theorem ntD {xs : List (List Key × V)} : ¬ TbO (.dT xs) := fun ⟨_, z, _⟩ => nomatch z
theorem Same.seq {K : PySem.W.Frag} {H H' : Hp} {a : Addr} {xs : List V} (e : Same H H') (h : SqL K H a xs) : SqL K H' a xs := by
  rcases h with (h | ⟨o, h⟩) | h
  · exact .inl (.inl (e.is h ntL))
  · exact .inl (.inr ⟨o, e.is h ntF⟩)
  · exact .inr h
theorem tabG_iff {H : Hp} {P : Addr} : GxR.TabG H P ↔ ∃ o, H P = some o ∧ TbO o := ⟨fun ⟨ps, h, t⟩ => ⟨_, h, ps, rfl, t⟩, fun ⟨_, h, ps, e, t⟩ => ⟨ps, by rw [h, e], t⟩⟩
theorem tabG_up {H H' : Hp} {P : Addr} (h : GxR.TabG H P) (s : Same H H') : GxR.TabG H' P := by
  obtain ⟨o, h, t⟩ := tabG_iff.mp h
  rcases s P o h with h1 | ⟨_, o1, h1, t1⟩
  · exact tabG_iff.mpr ⟨o, h1, t⟩
  · exact tabG_iff.mpr ⟨o1, h1, t1⟩
theorem tabG_upd {H : Hp} {P a : Addr} {o u : HO} (h : GxR.TabG H P) (ha : H a = some o) (n : ¬ TbO o) : GxR.TabG (upd H a u) P := by
  obtain ⟨o2, h, t⟩ := tabG_iff.mp h
  have ne : P ≠ a := fun z => by
    rw [z, ha] at h
    cases h
    exact n t
  exact tabG_iff.mpr ⟨o2, by rw [upd_ne ne]; exact h, t⟩
/-- the table P of the code object c of a def that K tells -/
def TK (K : Fg) (c P : Addr) : Prop := ∃ (f : Addr) (o : Obj) (fd : FuncData) (o2 : Obj) (vs : Array Value), K.lookup f = some o ∧ o.data = .func fd ∧ fd.globals = mainGlobals ∧ fd.closure = [] ∧ fd.code = .ref c ∧ K.lookup c = some o2 ∧ o2.data = .fields vs ∧ vs[11]? = some (.ref P)
def Tabs (K : Fg) (H : Hp) : Prop := ∀ c P, TK K c P → GxR.TabG H P
theorem Tabs.up {K : Fg} {H H' : Hp} (h : Tabs K H) (s : Same H H') : Tabs K H' := fun c P k => tabG_up (h c P k) s
theorem Tabs.upd {K : Fg} {H : Hp} {a : Addr} {o u : HO} (h : Tabs K H) (ha : H a = some o) (n : ¬ TbO o) : Tabs K (upd H a u) := fun c P k => tabG_upd (h c P k) ha n

def kD : Key → D
  | .inl i => .int i
  | .inr x => .str x
mutual
inductive Rp (K : Fg) (F : Hp) : V → D → Prop
  | non : Rp K F .non .none
  | bl (b : Bool) : Rp K F (.bl b) (.bool b)
  | int (i : Int) : Rp K F (.int i) (.int i)
  | str (x : Str) : Rp K F (.str x) (.str x)
  | lst {a : Addr} {xs : List V} {ds : List D} : SqL K F a xs → RpA K F xs ds → Rp K F (.ref a) (.list ds)
  | tup {a : Addr} {xs : List V} {ds : List D} : SqT K F a xs → RpA K F xs ds → Rp K F (.ref a) (.tuple ds)
  | dK {a : Addr} {o : Obj} {kvs : List (Key × V)} {ps : List (D × D)} : F a = some (.frz o (.dK kvs)) → RpK K F kvs ps → Rp K F (.ref a) (.dict ps)
  | dT {a : Addr} {o : Obj} {kvs : List (List Key × V)} {ps : List (D × D)} : F a = some (.frz o (.dT kvs)) → RpT K F kvs ps → Rp K F (.ref a) (.dict (tagD :: ps))
  | fn {a : Addr} {x : Str} : PySem.W.nsIn K mainGlobals x = some (some (.ref a)) → Rp K F (.ref a) (fnD x)
inductive RpA (K : Fg) (F : Hp) : List V → List D → Prop
  | nil : RpA K F [] []
  | cons {v : V} {vs : List V} {d : D} {ds : List D} : Rp K F v d → RpA K F vs ds → RpA K F (v :: vs) (d :: ds)
inductive RpK (K : Fg) (F : Hp) : List (Key × V) → List (D × D) → Prop
  | nil : RpK K F [] []
  | cons {k : Key} {v : V} {vs : List (Key × V)} {d : D} {ds : List (D × D)} : Rp K F v d → RpK K F vs ds → RpK K F ((k, v) :: vs) ((kD k, d) :: ds)
inductive RpT (K : Fg) (F : Hp) : List (List Key × V) → List (D × D) → Prop
  | nil : RpT K F [] []
  | cons {k : List Key} {v : V} {vs : List (List Key × V)} {d : D} {ds : List (D × D)} : Rp K F v d → RpT K F vs ds → RpT K F ((k, v) :: vs) ((.tuple (k.map kD), d) :: ds)
end
section
variable {K : Fg} {F F' : Hp}
theorem sameT {a : Addr} {xs : List V} (e : Same F F') (h : SqT K F a xs) : SqT K F' a xs := by
  rcases h with h | h
  · rcases h with h | ⟨o, h⟩
    · exact .inl (.inl (e.is h ntT))
    · exact .inl (.inr ⟨o, e.is h ntF⟩)
  · exact .inr h
mutual
theorem Rp.up (e : Same F F') : ∀ {v : V} {d : D}, Rp K F v d → Rp K F' v d
  | _, _, .non => .non
  | _, _, .bl b => .bl b
  | _, _, .int i => .int i
  | _, _, .str x => .str x
  | _, _, .lst h r => .lst (e.seq h) (RpA.up e r)
  | _, _, .tup h r => .tup (sameT e h) (RpA.up e r)
  | _, _, .dK h r => .dK (e.is h ntF) (RpK.up e r)
  | _, _, .dT h r => .dT (e.is h ntF) (RpT.up e r)
  | _, _, .fn h => .fn h
theorem RpA.up (e : Same F F') : ∀ {v : List V} {d : List D}, RpA K F v d → RpA K F' v d
  | _, _, .nil => .nil
  | _, _, .cons h r => .cons (Rp.up e h) (RpA.up e r)
theorem RpK.up (e : Same F F') : ∀ {v : List (Key × V)} {d : List (D × D)}, RpK K F v d → RpK K F' v d
  | _, _, .nil => .nil
  | _, _, .cons h r => .cons (Rp.up e h) (RpK.up e r)
theorem RpT.up (e : Same F F') : ∀ {v : List (List Key × V)} {d : List (D × D)}, RpT K F v d → RpT K F' v d
  | _, _, .nil => .nil
  | _, _, .cons h r => .cons (Rp.up e h) (RpT.up e r)
end
theorem RpA.len : ∀ {vs : List V} {ds : List D}, RpA K F vs ds → vs.length = ds.length
  | _, _, .nil => rfl
  | _, _, .cons _ r => congrArg (· + 1) (RpA.len r)
theorem RpA.get : ∀ {vs : List V} {ds : List D} {i : Nat} {d : D}, RpA K F vs ds → ds[i]? = some d → ∃ v, vs[i]? = some v ∧ Rp K F v d
  | _, _, _, _, .nil, h => by simp at h
  | _, _, 0, _, .cons h _, e => by
    simp at e
    subst e
    exact ⟨_, rfl, h⟩
  | _, _, i + 1, d, .cons _ r, e => by
    obtain ⟨v, h1, h2⟩ := RpA.get (i := i) (d := d) r (by simpa using e)
    exact ⟨v, by simpa using h1, h2⟩
theorem RpA.getV : ∀ {vs : List V} {ds : List D} {i : Nat} {v : V}, RpA K F vs ds → vs[i]? = some v → ∃ d, ds[i]? = some d ∧ Rp K F v d
  | _, _, _, _, .nil, h => by simp at h
  | _, _, 0, _, .cons h _, e => by
    simp at e
    subst e
    exact ⟨_, rfl, h⟩
  | _, _, i + 1, v, .cons _ r, e => by
    obtain ⟨d, h1, h2⟩ := RpA.getV (i := i) (v := v) r (by simpa using e)
    exact ⟨d, by simpa using h1, h2⟩
theorem RpA.app : ∀ {vs ws : List V} {ds es : List D}, RpA K F vs ds → RpA K F ws es → RpA K F (vs ++ ws) (ds ++ es)
  | _, _, _, _, .nil, r => r
  | _, _, _, _, .cons h r, s => .cons h (RpA.app r s)
theorem RpA.take : ∀ {vs : List V} {ds : List D} (n : Nat), RpA K F vs ds → RpA K F (vs.take n) (ds.take n)
  | _, _, 0, _ => .nil
  | _, _, _ + 1, .nil => .nil
  | _, _, n + 1, .cons h r => .cons h (RpA.take n r)
theorem RpA.drop : ∀ {vs : List V} {ds : List D} (n : Nat), RpA K F vs ds → RpA K F (vs.drop n) (ds.drop n)
  | _, _, 0, r => r
  | _, _, _ + 1, .nil => .nil
  | _, _, n + 1, .cons _ r => RpA.drop n r
theorem RpA.rev {vs : List V} {ds : List D} (h : RpA K F vs ds) : RpA K F vs.reverse ds.reverse := by
  induction vs generalizing ds with
  | nil => cases h; exact .nil
  | cons v vs ih =>
    cases h with
    | cons h r =>
      rw [List.reverse_cons, List.reverse_cons]
      exact (ih r).app (.cons h .nil)
theorem RpA.set : ∀ {vs : List V} {ds : List D} {v : V} {d : D} (i : Nat), RpA K F vs ds → Rp K F v d → RpA K F (vs.set i v) (ds.set i d)
  | _, _, _, _, _, .nil, _ => .nil
  | _, _, _, _, 0, .cons _ r, q => .cons q r
  | _, _, _, _, i + 1, .cons h r, q => .cons h (RpA.set i r q)
theorem RpA.rep {vs : List V} {ds : List D} (r : RpA K F vs ds) : ∀ n, RpA K F (List.replicate n vs).flatten (List.replicate n ds).flatten
  | 0 => .nil
  | n + 1 => by
    rw [List.replicate_succ, List.replicate_succ, List.flatten_cons, List.flatten_cons]
    exact r.app (RpA.rep r n)
theorem RpA.empty {vs : List V} {ds : List D} (h : RpA K F vs ds) : vs.isEmpty = ds.isEmpty := by cases h <;> rfl
end

/-! ### the part of the heap that nobody changes -/
open Classical in
noncomputable def cutH (p : Addr → Prop) (H : Hp) : Hp := fun b => if p b then none else H b
theorem cutH_some {p : Addr → Prop} {H : Hp} {b : Addr} {o : HO} : cutH p H b = some o ↔ ¬ p b ∧ H b = some o := by
  unfold cutH
  by_cases h : p b
  · rw [if_pos h]
    exact ⟨fun z => (nomatch z), fun z => absurd h z.1⟩
  · rw [if_neg h]
    exact ⟨fun z => ⟨h, z⟩, fun z => z.2⟩
theorem cutH_same {p q : Addr → Prop} {H H' : Hp} (hp : ∀ b, q b → p b ∨ H b = none) (e : Same H H') : Same (cutH p H) (cutH q H') := fun b o h => by
  obtain ⟨h1, h2⟩ := cutH_some.mp h
  have nq : ¬ q b := fun z => by
    rcases hp b z with r | r
    · exact h1 r
    · rw [r] at h2; cases h2
  rcases e _ _ h2 with h3 | ⟨t, o', h3, t'⟩
  · exact .inl (cutH_some.mpr ⟨nq, h3⟩)
  · exact .inr ⟨t, o', cutH_some.mpr ⟨nq, h3⟩, t'⟩
theorem cutH_sub {p : Addr → Prop} {H : Hp} : Same (cutH p H) H := fun b o h => .inl (cutH_some.mp h).2

structure Gh where
  ban : Addr → Prop
  H0 : Hp
def Own (e : Vn) (σ : Stt) (b : Addr) : Prop := ∃ i d, gt e i = some (.o d) ∧ σ[i]? = some (some (.ref b))
noncomputable abbrev Fz (G : Gh) (e : Vn) (σ : Stt) (H : Hp) : Hp := cutH (fun b => G.ban b ∨ Own e σ b) H
/-- something stands there that is no tuple -/
def NT (o : Option HO) : Prop := o ≠ none ∧ ∀ xs, o ≠ some (.tup xs)
theorem NT.up {H H' : Hp} {b : Addr} (n : NT (H b)) (s : Same H H') : NT (H' b) := by
  cases h : H b with
  | none => exact absurd h n.1
  | some o =>
    rw [h] at n
    rcases s b o h with z | ⟨_, o', z, t⟩
    · rw [z]
      exact n
    · rw [z]
      obtain ⟨ps, rfl, _⟩ := t
      exact ⟨fun z => (nomatch z), fun _ z => (nomatch z)⟩
inductive Top (K : Fg) (H F : Hp) : Addr → D → Prop
  | lst {a : Addr} {vs : List V} {ds : List D} : H a = some (.lst vs) → RpA K F vs ds → Top K H F a (.list ds)
  | dK {a : Addr} {kvs : List (Key × V)} {ps : List (D × D)} : H a = some (.dK kvs) → RpK K F kvs ps → Top K H F a (.dict ps)
  | dT {a : Addr} {kvs : List (List Key × V)} {ps : List (D × D)} : H a = some (.dT kvs) → RpT K F kvs ps → Top K H F a (.dict (tagD :: ps))
/-- at one place -/
def SameA (H H' : Hp) (b : Addr) : Prop := ∀ o, H b = some o → H' b = some o ∨ (TbO o ∧ ∃ o', H' b = some o' ∧ TbO o')
theorem SameA.is {H H' : Hp} {b : Addr} {o : HO} (e : SameA H H' b) (h : H b = some o) (n : ¬ TbO o) : H' b = some o := (e o h).resolve_right fun z => n z.1
theorem Top.up {K : Fg} {H F H' F' : Hp} {a : Addr} {d : D} (h : Top K H F a d) (ha : SameA H H' a) (hf : Same F F') : Top K H' F' a d := by
  cases h with
  | lst h r => exact .lst (ha.is h ntL) (r.up hf)
  | dK h r => exact .dK (ha.is h ntK) (r.up hf)
  | dT h r => exact .dT (ha.is h ntD) (r.up hf)
theorem Top.there {K : Fg} {H F : Hp} {a : Addr} {d : D} (h : Top K H F a d) : NT (H a) := by
  cases h with
  | lst h _ => rw [h]; exact ⟨fun z => (nomatch z), fun _ z => (nomatch z)⟩
  | dK h _ => rw [h]; exact ⟨fun z => (nomatch z), fun _ z => (nomatch z)⟩
  | dT h _ => rw [h]; exact ⟨fun z => (nomatch z), fun _ z => (nomatch z)⟩
theorem Top.rp {K : Fg} {H F F' : Hp} {a : Addr} {d : D} (h : Top K H F a d) (hd : nd d = true) (ha : SameA H F' a) (hf : Same F F') : Rp K F' (.ref a) d := by
  cases h with
  | lst h r => exact .lst (.inl (.inl (ha.is h ntL))) (r.up hf)
  | dK h r => cases hd
  | dT h r => cases hd

structure Mt' (K : Fg) (G : Gh) (e : Vn) (σ : Stt) (H : Hp) : Prop where
  len : e.length = σ.length
  ext : Same G.H0 H
  ban : ∀ b, G.ban b → NT (H b)
  val : ∀ i d, gt e i = some (.v d) → ∃ v, σ[i]? = some (some v) ∧ Rp K (Fz G e σ H) v d
  own : ∀ i d, gt e i = some (.o d) → ∃ a, σ[i]? = some (some (.ref a)) ∧ G.H0 a = none ∧ ¬ G.ban a ∧ Top K H (Fz G e σ H) a d
  inj : ∀ i j a d d', gt e i = some (.o d) → gt e j = some (.o d') → σ[i]? = some (some (.ref a)) → σ[j]? = some (some (.ref a)) → i = j
  tab : Tabs K H
section
variable {K : Fg} {G : Gh} {e : Vn} {σ : Stt} {H H' : Hp}
theorem fz_up (s : Same H H') : Same (Fz G e σ H) (Fz G e σ H') := cutH_same (fun _ h => .inl h) s
theorem Mt'.up (m : Mt' K G e σ H) (s : Same H H') : Mt' K G e σ H' where
  len := m.len
  ext := m.ext.trans s
  ban := fun b h => (m.ban b h).up s
  val := fun i d h => by
    obtain ⟨v, h1, h2⟩ := m.val i d h
    exact ⟨v, h1, h2.up (fz_up s)⟩
  own := fun i d h => by
    obtain ⟨a, h1, h2, h3, h4⟩ := m.own i d h
    exact ⟨a, h1, h2, h3, h4.up (s a) (fz_up s)⟩
  inj := m.inj
  tab := m.tab.up s
theorem Mt'.ownThere (m : Mt' K G e σ H) {b : Addr} (o : Own e σ b) : NT (H b) := by
  obtain ⟨i, d, h1, h2⟩ := o
  obtain ⟨a, h3, _, _, h4⟩ := m.own i d h1
  rw [h2] at h3
  cases h3
  exact h4.there
/-- a slot is given a value of the quiet part -/
theorem own_put {i : Nat} {y : Option Sl} {w : Option V} {b : Addr} (hl : e.length = σ.length) (hi : i < e.length) (hy : isOwn y = false) : Own (pt e i y) (σ.set i w) b ↔ ∃ j d, j ≠ i ∧ gt e j = some (.o d) ∧ σ[j]? = some (some (.ref b)) := by
  constructor
  · rintro ⟨j, d, h1, h2⟩
    by_cases hj : i = j
    · subst hj
      rw [gt_pt_same e i y hi] at h1
      rw [h1] at hy
      cases hy
    · rw [gt_pt_ne e i j y hj] at h1
      rw [List.getElem?_set_ne hj] at h2
      exact ⟨j, d, Ne.symm hj, h1, h2⟩
  · rintro ⟨j, d, hj, h1, h2⟩
    exact ⟨j, d, by rw [gt_pt_ne e i j y (Ne.symm hj)]; exact h1, by rw [List.getElem?_set_ne (Ne.symm hj)]; exact h2⟩
theorem own_put_sub {i : Nat} {y : Option Sl} {w : Option V} {b : Addr} (hl : e.length = σ.length) (hi : i < e.length) (hy : isOwn y = false) (o : Own (pt e i y) (σ.set i w) b) : Own e σ b := by
  obtain ⟨j, d, _, h1, h2⟩ := (own_put hl hi hy).mp o
  exact ⟨j, d, h1, h2⟩
theorem Mt'.put (m : Mt' K G e σ H) {i : Nat} {v : V} {d : D} (hi : i < e.length) (r : Rp K (Fz G e σ H) v d) : Mt' K G (pt e i (some (.v d))) (σ.set i (some v)) H := by
  have hs : Same (Fz G e σ H) (Fz G (pt e i (some (.v d))) (σ.set i (some v)) H) := cutH_same (fun b h => .inl (h.imp id (own_put_sub m.len hi rfl))) (Same.refl H)
  have hσ : i < σ.length := by rw [← m.len]; exact hi
  refine ⟨by rw [pt_length, List.length_set]; exact m.len, m.ext, m.ban, fun j d' h => ?_, fun j d' h => ?_, fun j k a d1 d2 h1 h2 h3 h4 => ?_, m.tab⟩
  · by_cases hj : i = j
    · subst hj
      rw [gt_pt_same _ _ _ hi] at h
      cases h
      exact ⟨v, List.getElem?_set_self hσ, r.up hs⟩
    · rw [gt_pt_ne _ _ _ _ hj] at h
      obtain ⟨u, h1, h2⟩ := m.val j d' h
      exact ⟨u, by rw [List.getElem?_set_ne hj]; exact h1, h2.up hs⟩
  · by_cases hj : i = j
    · subst hj
      rw [gt_pt_same _ _ _ hi] at h
      cases h
    · rw [gt_pt_ne _ _ _ _ hj] at h
      obtain ⟨a, h1, h2, h3, h4⟩ := m.own j d' h
      exact ⟨a, by rw [List.getElem?_set_ne hj]; exact h1, h2, h3, h4.up (fun _ q => .inl q) hs⟩
  · have n1 : i ≠ j := fun z => by subst z; rw [gt_pt_same _ _ _ hi] at h1; cases h1
    have n2 : i ≠ k := fun z => by subst z; rw [gt_pt_same _ _ _ hi] at h2; cases h2
    rw [gt_pt_ne _ _ _ _ n1] at h1
    rw [gt_pt_ne _ _ _ _ n2] at h2
    rw [List.getElem?_set_ne n1] at h3
    rw [List.getElem?_set_ne n2] at h4
    exact m.inj j k a d1 d2 h1 h2 h3 h4
/-- a slot forgotten (the state as it was) -/
theorem Mt'.kill1 (m : Mt' K G e σ H) (i : Nat) : Mt' K G (pt e i none) σ H := by
  have sub : ∀ j s, gt (pt e i none) j = some s → gt e j = some s := fun j s h => by
    by_cases hj : i = j
    · subst hj
      by_cases hi : i < e.length
      · rw [gt_pt_same _ _ _ hi] at h
        cases h
      · rw [pt_set, List.set_eq_of_length_le (by omega)] at h
        exact h
    · rwa [gt_pt_ne _ _ _ _ hj] at h
  have hs : Same (Fz G e σ H) (Fz G (pt e i none) σ H) := cutH_same (fun b h => .inl (h.imp id fun ⟨j, d, h1, h2⟩ => ⟨j, d, sub j _ h1, h2⟩)) (Same.refl H)
  refine ⟨by rw [pt_length]; exact m.len, m.ext, m.ban, fun j d' h => ?_, fun j d' h => ?_, fun j k a d1 d2 h1 h2 h3 h4 => m.inj j k a d1 d2 (sub _ _ h1) (sub _ _ h2) h3 h4, m.tab⟩
  · obtain ⟨u, h1, h2⟩ := m.val j d' (sub _ _ h)
    exact ⟨u, h1, h2.up hs⟩
  · obtain ⟨a, h1, h2, h3, h4⟩ := m.own j d' (sub _ _ h)
    exact ⟨a, h1, h2, h3, h4.up (fun _ q => .inl q) hs⟩
theorem Mt'.kill : ∀ (is : List Nat) {e : Vn}, Mt' K G e σ H → Mt' K G (kil is e) σ H
  | [], _, m => m
  | i :: is, _, m => by rw [kil_cons]; exact Mt'.kill is (m.kill1 i)
/-- an owned list is let go: nobody changes it any more -/
theorem Mt'.freeze (m : Mt' K G e σ H) {i : Nat} {d : D} (h : gt e i = some (.o d)) (hd : nd d = true) : Mt' K G (pt e i (some (.v d))) σ H := by
  have hi : i < e.length := by
    rw [gt_get] at h
    by_cases z : i < e.length
    · exact z
    · rw [List.getElem?_eq_none (by omega)] at h; cases h
  obtain ⟨a, h1, h2, h3, h4⟩ := m.own i d h
  have hσ : i < σ.length := by rw [← m.len]; exact hi
  have eσ : σ.set i (some (.ref a)) = σ := by
    apply List.ext_getElem?
    intro j
    by_cases hj : i = j
    · subst hj; rw [List.getElem?_set_self hσ, h1]
    · rw [List.getElem?_set_ne hj]
  have sub : ∀ {b}, Own (pt e i (some (.v d))) σ b → Own e σ b := fun {b} o => by
    have o' : Own (pt e i (some (.v d))) (σ.set i (some (.ref a))) b := by rw [eσ]; exact o
    exact own_put_sub m.len hi rfl o'
  have nA : ¬ Own (pt e i (some (.v d))) σ a := fun o => by
    have o' : Own (pt e i (some (.v d))) (σ.set i (some (.ref a))) a := by rw [eσ]; exact o
    obtain ⟨j, d', hj, q1, q2⟩ := (own_put m.len hi rfl).mp o'
    exact hj (m.inj j i a d' d q1 h q2 h1)
  have hs : Same (Fz G e σ H) (Fz G (pt e i (some (.v d))) σ H) := cutH_same (fun b h => .inl (h.imp id sub)) (Same.refl H)
  refine ⟨by rw [pt_length]; exact m.len, m.ext, m.ban, fun j d' q => ?_, fun j d' q => ?_, fun j k a' d1 d2 q1 q2 q3 q4 => ?_, m.tab⟩
  · by_cases hj : i = j
    · subst hj
      rw [gt_pt_same _ _ _ hi] at q
      cases q
      exact ⟨_, h1, h4.rp hd (fun o z => .inl (cutH_some.mpr ⟨fun w => w.elim h3 nA, z⟩)) hs⟩
    · rw [gt_pt_ne _ _ _ _ hj] at q
      obtain ⟨u, q1, q2⟩ := m.val j d' q
      exact ⟨u, q1, q2.up hs⟩
  · by_cases hj : i = j
    · subst hj
      rw [gt_pt_same _ _ _ hi] at q
      cases q
    · rw [gt_pt_ne _ _ _ _ hj] at q
      obtain ⟨a', q1, q2, q3, q4⟩ := m.own j d' q
      exact ⟨a', q1, q2, q3, q4.up (fun _ z => .inl z) hs⟩
  · have n1 : i ≠ j := fun z => by subst z; rw [gt_pt_same _ _ _ hi] at q1; cases q1
    have n2 : i ≠ k := fun z => by subst z; rw [gt_pt_same _ _ _ hi] at q2; cases q2
    rw [gt_pt_ne _ _ _ _ n1] at q1
    rw [gt_pt_ne _ _ _ _ n2] at q2
    exact m.inj j k a' d1 d2 q1 q2 q3 q4
/-- a dict is let go: it is locked -/
theorem Mt'.freezeD (m : Mt' K G e σ H) {i : Nat} {ps : List (D × D)} (h : gt e i = some (.o (.dict ps))) : ∃ a u, H a = some u ∧ Mut (some u) ∧ ∀ od, Mt' K G (pt e i (some (.v (.dict ps)))) σ (upd H a (.frz od u)) ∧ Same (Fz G e σ H) (Fz G (pt e i (some (.v (.dict ps)))) σ (upd H a (.frz od u))) := by
  have hi : i < e.length := by
    rw [gt_get] at h
    by_cases z : i < e.length
    · exact z
    · rw [List.getElem?_eq_none (by omega)] at h; cases h
  obtain ⟨a, h1, h2, h3, h4⟩ := m.own i _ h
  have hσ : i < σ.length := by rw [← m.len]; exact hi
  have eσ : σ.set i (some (.ref a)) = σ := by
    apply List.ext_getElem?
    intro j
    by_cases hj : i = j
    · subst hj; rw [List.getElem?_set_self hσ, h1]
    · rw [List.getElem?_set_ne hj]
  have sub : ∀ {b}, Own (pt e i (some (.v (.dict ps)))) σ b → Own e σ b := fun {b} o => by
    have o' : Own (pt e i (some (.v (.dict ps)))) (σ.set i (some (.ref a))) b := by rw [eσ]; exact o
    exact own_put_sub m.len hi rfl o'
  have nA : ¬ Own (pt e i (some (.v (.dict ps)))) σ a := fun o => by
    have o' : Own (pt e i (some (.v (.dict ps)))) (σ.set i (some (.ref a))) a := by rw [eσ]; exact o
    obtain ⟨j, d', hj, q1, q2⟩ := (own_put m.len hi rfl).mp o'
    exact hj (m.inj j i a d' _ q1 h q2 h1)
  have oA : Own e σ a := ⟨i, _, h, h1⟩
  obtain ⟨u, hu, mu⟩ : ∃ u, H a = some u ∧ Mut (some u) := by
    cases h4 with
    | dK z _ => exact ⟨_, z, True.intro⟩
    | dT z _ => exact ⟨_, z, True.intro⟩
  refine ⟨a, u, hu, mu, fun od => ?_⟩
  have ne : ∀ b, b ≠ a → upd H a (.frz od u) b = H b := fun b hb => upd_ne hb
  have hs : Same (Fz G e σ H) (Fz G (pt e i (some (.v (.dict ps)))) σ (upd H a (.frz od u))) := fun b o q => by
    obtain ⟨q1, q2⟩ := cutH_some.mp q
    have hb : b ≠ a := fun z => q1 (.inr (by rw [z]; exact oA))
    exact .inl (cutH_some.mpr ⟨fun w => q1 (w.imp id sub), by rw [ne b hb]; exact q2⟩)
  refine ⟨⟨by rw [pt_length]; exact m.len, fun b o q => ?_, fun b hb => ?_, fun j d' q => ?_, fun j d' q => ?_, fun j k a' d1 d2 q1 q2 q3 q4 => ?_, m.tab.upd hu fun z => ?_⟩, hs⟩
  · have hb : b ≠ a := fun z => by rw [z, h2] at q; cases q
    rcases m.ext b o q with z | ⟨t, o', z, t'⟩
    · exact .inl (by rw [ne b hb]; exact z)
    · exact .inr ⟨t, o', by rw [ne b hb]; exact z, t'⟩
  · have hb2 : b ≠ a := fun z => h3 (by rw [← z]; exact hb)
    rw [ne b hb2]
    exact m.ban b hb
  · by_cases hj : i = j
    · subst hj
      rw [gt_pt_same _ _ _ hi] at q
      cases q
      have fa : Fz G (pt e i (some (.v (.dict ps)))) σ (upd H a (.frz od u)) a = some (.frz od u) := cutH_some.mpr ⟨fun w => w.elim h3 nA, upd_same⟩
      refine ⟨_, h1, ?_⟩
      cases h4 with
      | dK z r =>
        rw [hu] at z
        cases z
        exact .dK fa (r.up hs)
      | dT z r =>
        rw [hu] at z
        cases z
        exact .dT fa (r.up hs)
    · rw [gt_pt_ne _ _ _ _ hj] at q
      obtain ⟨v, q1, q2⟩ := m.val j d' q
      exact ⟨v, q1, q2.up hs⟩
  · by_cases hj : i = j
    · subst hj
      rw [gt_pt_same _ _ _ hi] at q
      cases q
    · rw [gt_pt_ne _ _ _ _ hj] at q
      obtain ⟨a', q1, q2, q3, q4⟩ := m.own j d' q
      have hb : a' ≠ a := fun z => hj (m.inj i j a _ d' h q h1 (by rw [← z]; exact q1))
      exact ⟨a', q1, q2, q3, q4.up (fun o w => .inl (by rw [ne a' hb]; exact w)) hs⟩
  · have n1 : i ≠ j := fun z => by subst z; rw [gt_pt_same _ _ _ hi] at q1; cases q1
    have n2 : i ≠ k := fun z => by subst z; rw [gt_pt_same _ _ _ hi] at q2; cases q2
    rw [gt_pt_ne _ _ _ _ n1] at q1
    rw [gt_pt_ne _ _ _ _ n2] at q2
    exact m.inj j k a' d1 d2 q1 q2 q3 q4
  · obtain ⟨ps, rfl, _⟩ := z
    exact mu.elim
/-- a slot is given a new list or dict of its own -/
theorem Mt'.putO (m : Mt' K G e σ H) {i : Nat} {a : Addr} {d : D} (hi : i < e.length) (h0 : G.H0 a = none) (hb : ¬ G.ban a) (hn : ∀ j d', gt e j = some (.o d') → σ[j]? = some (some (.ref a)) → False)
    (hv : ∀ j d', gt e j = some (.v d') → ∃ v, σ[j]? = some (some v) ∧ Rp K (cutH (fun b => G.ban b ∨ Own e σ b ∨ b = a) H) v d')
    (ho : ∀ j d' b, gt e j = some (.o d') → σ[j]? = some (some (.ref b)) → Top K H (cutH (fun b => G.ban b ∨ Own e σ b ∨ b = a) H) b d')
    (t : Top K H (cutH (fun b => G.ban b ∨ Own e σ b ∨ b = a) H) a d) : Mt' K G (pt e i (some (.o d))) (σ.set i (some (.ref a))) H := by
  have hσ : i < σ.length := by rw [← m.len]; exact hi
  have sub : ∀ {b}, Own (pt e i (some (.o d))) (σ.set i (some (.ref a))) b → Own e σ b ∨ b = a := fun {b} ⟨j, d', q1, q2⟩ => by
    by_cases hj : i = j
    · subst hj
      rw [List.getElem?_set_self hσ] at q2
      cases q2
      exact .inr rfl
    · rw [gt_pt_ne _ _ _ _ hj] at q1
      rw [List.getElem?_set_ne hj] at q2
      exact .inl ⟨j, d', q1, q2⟩
  have hs : Same (cutH (fun b => G.ban b ∨ Own e σ b ∨ b = a) H) (Fz G (pt e i (some (.o d))) (σ.set i (some (.ref a))) H) := cutH_same (fun b h => .inl (h.imp id sub)) (Same.refl H)
  refine ⟨by rw [pt_length, List.length_set]; exact m.len, m.ext, m.ban, fun j d' q => ?_, fun j d' q => ?_, fun j k a' d1 d2 q1 q2 q3 q4 => ?_, m.tab⟩
  · by_cases hj : i = j
    · subst hj
      rw [gt_pt_same _ _ _ hi] at q
      cases q
    · rw [gt_pt_ne _ _ _ _ hj] at q
      obtain ⟨u, q1, q2⟩ := hv j d' q
      exact ⟨u, by rw [List.getElem?_set_ne hj]; exact q1, q2.up hs⟩
  · by_cases hj : i = j
    · subst hj
      rw [gt_pt_same _ _ _ hi] at q
      cases q
      exact ⟨a, List.getElem?_set_self hσ, h0, hb, t.up (fun _ z => .inl z) hs⟩
    · rw [gt_pt_ne _ _ _ _ hj] at q
      obtain ⟨b, q1, q2, q3, _⟩ := m.own j d' q
      exact ⟨b, by rw [List.getElem?_set_ne hj]; exact q1, q2, q3, (ho j d' b q q1).up (fun _ z => .inl z) hs⟩
  · by_cases hj : i = j
    · by_cases hk : i = k
      · exact hj.symm.trans hk
      · subst hj
        rw [List.getElem?_set_self hσ] at q3
        cases q3
        rw [gt_pt_ne _ _ _ _ hk] at q2
        rw [List.getElem?_set_ne hk] at q4
        exact (hn k d2 q2 q4).elim
    · by_cases hk : i = k
      · subst hk
        rw [List.getElem?_set_self hσ] at q4
        cases q4
        rw [gt_pt_ne _ _ _ _ hj] at q1
        rw [List.getElem?_set_ne hj] at q3
        exact (hn j d1 q1 q3).elim
      · rw [gt_pt_ne _ _ _ _ hj] at q1
        rw [gt_pt_ne _ _ _ _ hk] at q2
        rw [List.getElem?_set_ne hj] at q3
        rw [List.getElem?_set_ne hk] at q4
        exact m.inj j k a' d1 d2 q1 q2 q3 q4
end
end Bk
/-! E3: readings by the evaluator; the operations over the heap. -/
namespace Bk
open PySem PySem.Spec PyProof.Rows L2

def Rb (K : Fg) (G : Gh) (e : Vn) (σ : Stt) (H : Hp) (v : V) (d : D) : Prop := Rp K (Fz G e σ H) v d ∨ ∃ i, gt e i = some (.o d) ∧ σ[i]? = some (some v)
abbrev RbA (K : Fg) (G : Gh) (e : Vn) (σ : Stt) (H : Hp) : List V → List D → Prop := Paired (Rb K G e σ H)
def tE (K : Fg) (G : Gh) (f : Vn → Rs D) : TE := fun σ H Q => ∃ e d, Mt' K G e σ H ∧ f e = .ok d ∧ ∀ v H', Same H H' → Rp K (Fz G e σ H') v d → Q v H'
def tB (K : Fg) (G : Gh) (f : Vn → Rs D) : TE := fun σ H Q => ∃ e d, Mt' K G e σ H ∧ f e = .ok d ∧ ∀ v H', Same H H' → Rb K G e σ H' v d → Q v H'
/-- a new list or dict -/
def tO (K : Fg) (G : Gh) (f : Vn → Rs D) : TE := fun σ H Q => ∃ e d, Mt' K G e σ H ∧ f e = .ok d ∧ ∀ a H', Same H H' → H a = none → Top K H' (cutH (fun b => G.ban b ∨ Own e σ b ∨ b = a) H') a d → Q (.ref a) H'
def tQ (K : Fg) (G : Gh) (f : Vn → Rs Bool) : TT := fun σ H Q => ∃ e b, Mt' K G e σ H ∧ f e = .ok b ∧ ∀ H', Same H H' → Q b H'
def tA (K : Fg) (G : Gh) (f : Vn → Rs (List D)) : TA := fun σ H Q => ∃ e ds, Mt' K G e σ H ∧ f e = .ok ds ∧ ∀ vs H', Same H H' → RpA K (Fz G e σ H') vs ds → Q vs H'
def tAB (K : Fg) (G : Gh) (f : Vn → Rs (List D)) : TA := fun σ H Q => ∃ e ds, Mt' K G e σ H ∧ f e = .ok ds ∧ ∀ vs H', Same H H' → RbA K G e σ H' vs ds → Q vs H'

theorem peImp {X : Cx} {x : Expr} {t t' : TE} (h : PE X x t) (i : ∀ σ H Q, t' σ H Q → t σ H Q) : PE X x t' := ⟨fun pins s σ H Q I q => h.run pins s σ H Q I (i σ H Q q)⟩
theorem ptImp {X : Cx} {x : Expr} {t t' : TT} (h : PT X x t) (i : ∀ σ H Q, t' σ H Q → t σ H Q) : PT X x t' := ⟨fun pins s σ H Q I q => h.run pins s σ H Q I (i σ H Q q)⟩
theorem pwImp {X : Cx} {x : Expr} {t t' : TT} (h : PW X x t) (i : ∀ σ H Q, t' σ H Q → t σ H Q) : PW X x t' := ⟨fun wh pins s σ H Q I q => h.run wh pins s σ H Q I (i σ H Q q)⟩
theorem paImp {X : Cx} {x : List Expr} {t t' : TA} (h : PA X x t) (i : ∀ σ H Q, t' σ H Q → t σ H Q) : PA X x t' := ⟨fun po pins s σ H Q I q => h.run po pins s σ H Q I (i σ H Q q)⟩
theorem psImp {X : Cx} {x : Stmt} {t t' : TS} (h : PS X x t) (i : ∀ D σ H, t' D σ H → t D σ H) : PS X x t' := ⟨fun pins s σ H D I q => h.run pins s σ H D I (i D σ H q)⟩
theorem pssImp {X : Cx} {x : List Stmt} {t t' : TS} (h : PSs X x t) (i : ∀ D σ H, t' D σ H → t D σ H) : PSs X x t' := ⟨fun pins s σ H D I q => h.run pins s σ H D I (i D σ H q)⟩

/-- what stands there may be locked for good -/
theorem pssLk {X : Cx} {x : List Stmt} {t : TS} (h : PSs X x t) : PSs X x (fun D σ H => t D σ H ∨ ∃ a u, H a = some u ∧ Mut (some u) ∧ ∀ od, t D σ (upd H a (.frz od u))) := ⟨fun pins s σ H D I q => by
  rcases q with q | ⟨a, u, h1, h2, q⟩
  · exact h.run pins s σ H D I q
  · obtain ⟨od, I1⟩ := I.lock h1 h2
    exact h.run pins s σ _ D I1 (q od)⟩
theorem peLk {X : Cx} {x : Expr} {t : TE} (h : PE X x t) : PE X x (fun σ H Q => t σ H fun v H' => Q v H' ∨ ∃ a u, H' a = some u ∧ Mut (some u) ∧ ∀ od, Q v (upd H' a (.frz od u))) := ⟨fun pins s σ H Q I q => thn (h.run pins s σ H _ I q) fun w s' ⟨v, H', I', r, q'⟩ => by
  rcases q' with q' | ⟨a, u, h1, h2, q'⟩
  · exact ⟨v, H', I', r, q'⟩
  · obtain ⟨od, I1⟩ := I'.lock h1 h2
    exact ⟨v, _, I1, r, q' od⟩⟩
section
variable {K : Fg} {G : Gh} {e : Vn} {σ : Stt} {H H' : Hp}
theorem Rb.up {v : V} {d : D} (s : Same H H') (r : Rb K G e σ H v d) : Rb K G e σ H' v d := r.imp (Rp.up (fz_up s)) id
theorem RbA.up {vs : List V} {ds : List D} (s : Same H H') (r : RbA K G e σ H vs ds) : RbA K G e σ H' vs ds := Paired.mapP r fun _ _ q => q.up s
/-- what is lent stands in the heap as it is now -/
theorem Rb.now (m : Mt' K G e σ H) {v : V} {d : D} (r : Rb K G e σ H v d) (hd : nd d = true) : Rp K H v d := by
  rcases r with r | ⟨i, h1, h2⟩
  · exact r.up cutH_sub
  · obtain ⟨a, h3, _, _, h4⟩ := m.own i d h1
    rw [h2] at h3
    cases h3
    exact h4.rp hd (fun _ q => .inl q) cutH_sub
/-- a lent list: its items are quiet -/
theorem Rb.list (m : Mt' K G e σ H) {v : V} {ds : List D} (r : Rb K G e σ H v (.list ds)) : ∃ a xs, v = .ref a ∧ SqL K H a xs ∧ RpA K (Fz G e σ H) xs ds := by
  rcases r with r | ⟨i, h1, h2⟩
  · cases r with
    | lst h q => exact ⟨_, _, rfl, cutH_sub.seq h, q⟩
  · obtain ⟨a, h3, _, _, h4⟩ := m.own i _ h1
    rw [h2] at h3
    cases h3
    cases h4 with
    | lst h q => exact ⟨_, _, rfl, .inl (.inl h), q⟩
theorem Rb.tup (m : Mt' K G e σ H) {v : V} {ds : List D} (r : Rb K G e σ H v (.tuple ds)) : ∃ a xs, v = .ref a ∧ SqT K H a xs ∧ RpA K (Fz G e σ H) xs ds := by
  rcases r with r | ⟨i, h1, h2⟩
  · cases r with
    | tup h q => exact ⟨_, _, rfl, sameT cutH_sub h, q⟩
  · obtain ⟨a, h3, _, _, h4⟩ := m.own i _ h1
    rw [h2] at h3
    cases h3
    cases h4
theorem Rb.int (m : Mt' K G e σ H) {v : V} {i : Int} (r : Rb K G e σ H v (.int i)) : v = .int i := by
  cases r.now m rfl
  rfl
theorem Rb.str (m : Mt' K G e σ H) {v : V} {i : Str} (r : Rb K G e σ H v (.str i)) : v = .str i := by
  cases r.now m rfl
  rfl
theorem Rb.bool (m : Mt' K G e σ H) {v : V} {i : Bool} (r : Rb K G e σ H v (.bool i)) : v = .bl i := by
  cases r.now m rfl
  rfl
theorem Rb.none (m : Mt' K G e σ H) {v : V} (r : Rb K G e σ H v .none) : v = .non := by
  cases r.now m rfl
  rfl
theorem Rb.isNone (m : Mt' K G e σ H) {v : V} {d : D} (r : Rb K G e σ H v d) : decide (v = .non) = (match d with | .none => true | _ => false) := by
  cases d with
  | dict ps =>
    rcases r with r | ⟨i, h1, h2⟩
    · cases r <;> rfl
    · obtain ⟨a, h3, _, _, h4⟩ := m.own i _ h1
      rw [h2] at h3
      cases h3
      rfl
  | _ =>
    have q := r.now m rfl
    cases q <;> rfl
/-- a new object behind the heap: a tuple of quiet things -/
theorem fz_new (m : Mt' K G e σ H) {p : Addr} {o : HO} (hp : H p = .none) : Fz G e σ (upd H p o) p = some o := cutH_some.mpr ⟨fun z => z.elim (fun b => (m.ban p b).1 hp) (fun b => (m.ownThere b).1 hp), upd_same⟩
theorem same_new {p : Addr} {o : HO} (hp : H p = .none) : Same H (upd H p o) := fun b u h => .inl (by
  rw [upd_ne (ne_of_none h hp)]
  exact h)
theorem new_tup (m : Mt' K G e σ H) {p : Addr} {vs : List V} {ds : List D} (hp : H p = .none) (r : RpA K (Fz G e σ H) vs ds) : Rp K (Fz G e σ (upd H p (.tup vs))) (.ref p) (.tuple ds) :=
  .tup (.inl (.inl (fz_new m hp))) (r.up (fz_up (same_new hp)))
theorem new_lst (m : Mt' K G e σ H) {p : Addr} {vs : List V} {ds : List D} (hp : H p = .none) (r : RpA K (Fz G e σ H) vs ds) : Rp K (Fz G e σ (upd H p (.lst vs))) (.ref p) (.list ds) :=
  .lst (.inl (.inl (fz_new m hp))) (r.up (fz_up (same_new hp)))
theorem top_lst {p : Addr} {vs : List V} {ds : List D} (hp : H p = .none) (r : RpA K (Fz G e σ H) vs ds) : Top K (upd H p (.lst vs)) (cutH (fun b => G.ban b ∨ Own e σ b ∨ b = p) (upd H p (.lst vs))) p (.list ds) :=
  .lst upd_same (r.up (cutH_same (fun b h => by
    rcases h with h | h | h
    · exact .inl (.inl h)
    · exact .inl (.inr h)
    · exact .inr (by rw [h]; exact hp)) (same_new hp)))
/-- what was made is given away -/
theorem top_rp (m : Mt' K G e σ H) {a : Addr} {d : D} (hd : nd d = true) (s : Same H H') (hn : H a = .none) (t : Top K H' (cutH (fun b => G.ban b ∨ Own e σ b ∨ b = a) H') a d) : Rp K (Fz G e σ H') (.ref a) d :=
  t.rp hd (fun o h => .inl (cutH_some.mpr ⟨fun z => z.elim (fun b => (m.ban a b).1 hn) (fun b => (m.ownThere b).1 hn), h⟩)) (cutH_same (fun b h => .inl (h.elim .inl fun z => .inr (.inl z))) (Same.refl H'))
theorem tO_tE {f : Vn → Rs D} {Q : VK} (hd : ∀ e d, f e = .ok d → nd d = true) (h : tE K G f σ H Q) : tO K G f σ H Q := by
  obtain ⟨e, d, m, hf, q⟩ := h
  exact ⟨e, d, m, hf, fun a H' s hn t => q _ H' s (top_rp m (hd _ _ hf) s hn t)⟩
theorem tB_tE {f : Vn → Rs D} {Q : VK} (h : tB K G f σ H Q) : tE K G f σ H Q := by
  obtain ⟨e, d, m, hf, q⟩ := h
  exact ⟨e, d, m, hf, fun a H' s t => q _ H' s (.inl t)⟩

/-! ### two values to one -/
def OpOk (K : Fg) (G : Gh) (r : R2) (g : D → D → Rs D) : Prop := ∀ (e : Vn) (σ : Stt) (H : Hp) (x y : V) (dx dy d : D) (Q : VK), Mt' K G e σ H → Rb K G e σ H x dx → Rb K G e σ H y dy → g dx dy = .ok d → (∀ v H', Same H H' → Rp K (Fz G e σ H') v d → Q v H') → r x y H Q
theorem OpOk.read {r : R2} {g : D → D → Rs D} (h : OpOk K G r g) {fa fb : Vn → Rs D} {Q : VK} (t : tE K G (fun e => (fa e).bind fun x => (fb e).bind fun y => g x y) σ H Q) : tOp r (tB K G fa) (tB K G fb) σ H Q := by
  obtain ⟨e, d, m, hf, q⟩ := t
  obtain ⟨dx, h1, h2⟩ := Rs.bind_eq_ok hf
  obtain ⟨dy, h3, h4⟩ := Rs.bind_eq_ok h2
  exact ⟨e, dx, m, h1, fun x H1 s1 r1 => ⟨e, dy, m.up s1, h3, fun y H2 s2 r2 => h e σ H2 x y dx dy d Q (m.up (s1.trans s2)) (r1.up s2) r2 h4 fun v H' s r => q v H' ((s1.trans s2).trans s) r⟩⟩
end

/-! ### the rules over any list -/
section
variable {X : Cx}
def rCatL (K : Fg) : R2 := fun x y H Q => ∃ a b xs ys, x = .ref a ∧ y = .ref b ∧ SqL K H a xs ∧ SqL K H b ys ∧ xs.length + ys.length ≤ sizeLine ∧ ∀ p, H p = none → Q (.ref p) (upd H p (.lst (xs ++ ys)))
theorem op_catL : OpR X (binaryOp .Add) (rCatL X.K) := by
  rintro pins s σ H x y v u Q I rx ry ⟨a, b, xs, ys, rfl, rfl, ha, hb, hz, q⟩
  cases rx
  cases ry
  obtain ⟨its, r1, ⟨o1, n1, g1, c1, d1, e1⟩, _⟩ := I.list ha
  obtain ⟨its2, r2, ⟨o2, n2, g2, c2, d2, e2⟩, _⟩ := I.list hb
  obtain ⟨oc, od, dt, sl⟩ := o1
  obtain ⟨oc2, od2, dt2, sl2⟩ := o2
  simp only at c1 d1 e1 c2 d2 e2
  subst c1 d1 e1 c2 d2 e2
  have l1 := r1.length
  have l2 := r2.length
  refine PySem.concat_meets ⟨_, g1, rfl⟩ ⟨_, g2, rfl⟩ noFill_list_add seq_list_add PySem.F.slot_list_add PySem.F.entry_list_add (PySem.F.args_list_add_2 _ _) (list_addW a b its.toArray its2.toArray n1 n2 none none sl sl2 (by simp; omega)) ⟨g1, g2, ?_⟩
  have ea : its.toArray ++ its2.toArray = (its ++ its2).toArray := by simp
  rw [ea]
  exact ⟨.ref _, _, I.lnew (t' := s.toks) (r1.append r2) (by rw [List.length_append]; omega), rfl, q _ I.fresh⟩

/-! ### data of the heap as the library reads it -/
mutual
theorem shp_plain : ∀ (n : Nat) (d : D), shp n d = true → d.plain = true
  | _, .none, _ => rfl
  | _, .bool _, _ => rfl
  | _, .int _, _ => rfl
  | _, .str _, _ => rfl
  | 0, .list _, h => by simp [shp] at h
  | 0, .tuple _, h => by simp [shp] at h
  | 0, .dict _, h => by simp [shp] at h
  | n + 1, .list xs, h => by
    rw [PyData.plain]
    exact shp_plainAll n xs (by simpa [shp] using h)
  | n + 1, .tuple xs, h => by
    rw [PyData.plain]
    exact shp_plainAll n xs (by simpa [shp] using h)
  | _ + 1, .dict _, h => by simp [shp] at h
theorem shp_plainAll : ∀ (n : Nat) (xs : List D), (∀ x ∈ xs, shp n x = true) → PyData.plainAll xs = true
  | _, [], _ => rfl
  | n, x :: xs, h => by
    rw [PyData.plainAll, shp_plain n x (h x List.mem_cons_self), shp_plainAll n xs fun y hy => h y (List.mem_cons_of_mem _ hy)]
    rfl
end
mutual
theorem shp_depth : ∀ (n : Nat) (d : D), shp n d = true → d.depth ≤ n + 1
  | _, .none, _ => by simp [PyData.depth]
  | _, .bool _, _ => by simp [PyData.depth]
  | _, .int _, _ => by simp [PyData.depth]
  | _, .str _, _ => by simp [PyData.depth]
  | 0, .list _, h => by simp [shp] at h
  | 0, .tuple _, h => by simp [shp] at h
  | 0, .dict _, h => by simp [shp] at h
  | n + 1, .list xs, h => by
    have := shp_depthAll n xs (by simpa [shp] using h)
    rw [PyData.depth]
    omega
  | n + 1, .tuple xs, h => by
    have := shp_depthAll n xs (by simpa [shp] using h)
    rw [PyData.depth]
    omega
  | _ + 1, .dict _, h => by simp [shp] at h
theorem shp_depthAll : ∀ (n : Nat) (xs : List D), (∀ x ∈ xs, shp n x = true) → PyData.depthAll xs ≤ n + 1
  | _, [], _ => by simp [PyData.depthAll]
  | n, x :: xs, h => by
    have h1 := shp_depth n x (h x List.mem_cons_self)
    have h2 := shp_depthAll n xs fun y hy => h y (List.mem_cons_of_mem _ hy)
    rw [PyData.depthAll]
    omega
end
mutual
theorem Rp.dp {K : Fg} {H : Hp} : ∀ {v : V} {d : D}, d.plain = true → Rp K H v d → Dp K H v d
  | _, _, _, .non => .non
  | _, _, _, .bl b => .bl b
  | _, _, _, .int i => .int i
  | _, _, _, .str x => .str x
  | _, _, h, .lst q r => .lst q (RpA.dp (by simpa [PyData.plain] using h) r)
  | _, _, h, .tup q r => .tup q (RpA.dp (by simpa [PyData.plain] using h) r)
  | _, _, h, .dK _ _ => by simp [PyData.plain] at h
  | _, _, h, .dT _ _ => by simp [PyData.plain] at h
theorem RpA.dp {K : Fg} {H : Hp} : ∀ {vs : List V} {ds : List D}, PyData.plainAll ds = true → RpA K H vs ds → DpAll K H vs ds
  | _, _, _, .nil => .nil
  | _, _, h, .cons q r => by
    simp only [PyData.plainAll, Bool.and_eq_true] at h
    exact .cons (Rp.dp h.1 q) (RpA.dp h.2 r)
end
def rEqP (K : Fg) (neg : Bool) : R2 := fun x y H Q => ∃ d e n m, Rp K H x d ∧ Rp K H y e ∧ shp n d = true ∧ shp m e = true ∧ n ≤ 40 ∧ Q (.bl (if neg then !PyData.eqv d e else PyData.eqv d e)) H
theorem op_eqP (hu : X.A.units + 64 < cLine) : OpR X (compareOp .Eq) (rEqP X.K false) := by
  rintro pins s σ H x y v u Q I rx ry ⟨d, e, n, k, hd, he, sd, se, hn, q⟩
  obtain ⟨as, r1⟩ := Dp.reads I d x v (hd.dp (shp_plain n d sd)) rx
  obtain ⟨bs, r2⟩ := Dp.reads I e y u (he.dp (shp_plain k e se)) ry
  have := shp_depth n d sd
  exact SeqAt.eq_plain r1 r2 (shp_plain n d sd) (shp_plain k e se) (by omega) ⟨.bl _, H, I, rfl, q⟩
theorem op_neP (hu : X.A.units + 64 < cLine) : OpR X (compareOp .NotEq) (rEqP X.K true) := by
  rintro pins s σ H x y v u Q I rx ry ⟨d, e, n, k, hd, he, sd, se, hn, q⟩
  obtain ⟨as, r1⟩ := Dp.reads I d x v (hd.dp (shp_plain n d sd)) rx
  obtain ⟨bs, r2⟩ := Dp.reads I e y u (he.dp (shp_plain k e se)) ry
  have := shp_depth n d sd
  exact SeqAt.ne_plain r1 r2 (shp_plain n d sd) (shp_plain k e se) (by omega) ⟨.bl _, H, I, rfl, q⟩
def rLtP (K : Fg) : R2 := fun x y H Q => ∃ d e, Rp K H x d ∧ Rp K H y e ∧ shp 12 d = true ∧ shp 12 e = true ∧ PySem.W.alike d e = true ∧ d ≠ .none ∧ Q (.bl (PySem.W.dataLt d e)) H
theorem lessD_ok {a b : D} {c : Bool} (h : lessD a b = .ok c) : shp 12 a = true ∧ shp 12 b = true ∧ PySem.W.alike a b = true ∧ a ≠ .none ∧ c = PySem.W.dataLt a b := by
  unfold lessD at h
  split at h
  · rename_i hz
    simp only [Bool.and_eq_true] at hz
    cases h
    refine ⟨hz.1.1.1, hz.1.1.2, hz.1.2, fun z => ?_, rfl⟩
    subst z
    exact absurd hz.2 (by decide)
  · cases h
theorem op_ltP (hu : X.A.units + 64 < cLine) : OpR X (compareOp .Lt) (rLtP X.K) := by
  rintro pins s σ H x y v u Q I rx ry ⟨d, e, hd, he, sd, se, hal, hn, q⟩
  obtain ⟨as, r1⟩ := Dp.reads I d x v (hd.dp (shp_plain 12 d sd)) rx
  obtain ⟨bs, r2⟩ := Dp.reads I e y u (he.dp (shp_plain 12 e se)) ry
  have := shp_depth 12 d sd
  exact PySem.W.rcLt_alike d e X.A s v u as bs r1 r2 hal hn (by omega) X.prog X.w _ _ ⟨.bl _, H, I, rfl, q⟩
def rInP (K : Fg) (neg : Bool) : R2 := fun x y H Q => ∃ d ys n m, Rp K H x d ∧ (Rp K H y (.list ys) ∨ Rp K H y (.tuple ys)) ∧ shp n d = true ∧ ys.all (shp m) = true ∧ n ≤ 40 ∧ Q (.bl (if neg then !(ys.any fun z => PyData.eqv z d) else ys.any fun z => PyData.eqv z d)) H
theorem op_inP (hu : X.A.units + 64 < cLine) : OpR X (compareOp .In) (rInP X.K false) := by
  rintro pins s σ H x y v u Q I rx ry ⟨d, ys, n, k, hd, hy, sd, sy, hn, q⟩
  obtain ⟨as, r1⟩ := Dp.reads I d x v (hd.dp (shp_plain n d sd)) rx
  have py : PyData.plainAll ys = true := shp_plainAll k ys (by simpa using sy)
  have := shp_depth n d sd
  rcases hy with hy | hy
  · obtain ⟨bs, r2⟩ := Dp.reads I _ y u (hy.dp (by rw [PyData.plain]; exact py)) ry
    exact SeqAt.in_list_data r2 r1 py (shp_plain n d sd) (by omega) ⟨.bl _, H, I, rfl, q⟩
  · obtain ⟨bs, r2⟩ := Dp.reads I _ y u (hy.dp (by rw [PyData.plain]; exact py)) ry
    exact SeqAt.in_tuple_data r2 r1 py (shp_plain n d sd) (by omega) ⟨.bl _, H, I, rfl, q⟩
theorem op_notInP (hu : X.A.units + 64 < cLine) : OpR X (compareOp .NotIn) (rInP X.K true) := by
  rintro pins s σ H x y v u Q I rx ry ⟨d, ys, n, k, hd, hy, sd, sy, hn, q⟩
  obtain ⟨as, r1⟩ := Dp.reads I d x v (hd.dp (shp_plain n d sd)) rx
  have py : PyData.plainAll ys = true := shp_plainAll k ys (by simpa using sy)
  have := shp_depth n d sd
  rcases hy with hy | hy
  · obtain ⟨bs, r2⟩ := Dp.reads I _ y u (hy.dp (by rw [PyData.plain]; exact py)) ry
    exact SeqAt.notIn_list_data r2 r1 py (shp_plain n d sd) (by omega) ⟨.bl _, H, I, rfl, q⟩
  · obtain ⟨bs, r2⟩ := Dp.reads I _ y u (hy.dp (by rw [PyData.plain]; exact py)) ry
    exact SeqAt.notIn_tuple_data r2 r1 py (shp_plain n d sd) (by omega) ⟨.bl _, H, I, rfl, q⟩
end
end Bk
/-! E3b: a tuple once. -/
namespace Bk
open PySem PySem.Spec PyProof.Rows L2
theorem tuple_mul1 (l : Addr) (items : Array Value) (n : Nat) (dd : Option Addr) (sl : Array (Option Value)) (u : Tok) (c1 : (items.isEmpty || (1 : Int) == 1) = true) :
    Meets (Builtin.«tuple.__mul__» ⟨[.ref l, .int 1 u], []⟩) (fun _ R s => s.heap.get? l = some { cls := .type "tuple", dict := dd, data := .seq items n, slots := sl } ∧ R (.ok (.ret (Value.ref l))) s) :=
  .of_wp fun prog w A R s h => by
    obtain ⟨hp, g, d, tk, os⟩ := s
    obtain ⟨hl, h⟩ := h
    have f1 := AutoSeq1.idx_int
    have c0 : (decide ((1 : Int) < -(2 ^ 63)) || decide ((1 : Int) ≥ 2 ^ 63)) = false := by decide
    wp_walk using wpAny_loadPart' hl
    repeat (first
      | (refine wpAny_ite_false (decide_eq_false (by rw [c0]; exact Bool.false_ne_true)) ?_; wp_walk using wpAny_loadPart' hl)
      | (refine wpAny_ite_true (decide_eq_true c1) ?_; wp_walk using wpAny_loadPart' hl))
    exact ⟨_, rfl, h⟩
def rRepT1 (K : Fg) : R2 := fun x y H Q => ∃ l xs, x = .ref l ∧ y = .int 1 ∧ SqT K H l xs ∧ Q (.ref l) H
theorem op_repT1 {X : Cx} : OpR X (binaryOp .Mult) (rRepT1 X.K) := by
  intro pins s σ H x y v u Q I rx ry h
  obtain ⟨l, xs, rfl, rfl, hT, q⟩ := h
  cases rx
  obtain ⟨t, rfl⟩ := ry
  obtain ⟨its, r, ⟨⟨cls, dd, data, sl⟩, ho, hc, n, hd⟩, hs⟩ := I.tuple hT
  simp only at hc hd
  subst hc hd
  refine wpAny_binaryOp_repeat_ref (T := "tuple") (U := "int") (by decide) ⟨_, ho, rfl⟩ (fun s' => typeIs_int s' 1 t) noFill_tuple_mul F.fills_int_mul F.slot_int_rmul repeat_tuple F.slot_int_index.lookup
    (call_meets F.slot_int_rmul (typeIs_int s 1 t) F.entry_int_rmul (F.args_int_rmul_2 _ _) (int_rmul_tuple 1 t l its.toArray n dd sl)
      ⟨ho, rfl, ⟨_, ho, rfl⟩, call_meets F.slot_tuple_mul ⟨_, ho, rfl⟩ F.entry_tuple_mul (F.args_tuple_mul_2 _ _) (tuple_mul1 l its.toArray n dd sl t (by simp)) ⟨ho, ?_⟩⟩)
  exact ⟨.ref l, H, I, rfl, q⟩
end Bk
/-! E4: each operation of the evaluator answers for the rule of the machine. -/
namespace Bk
open PySem PySem.Spec PyProof.Rows L2
section
variable {X : Cx} {G : Gh}
theorem sl16 : (sizeLine : Nat) = 16777216 := sizeLine_eq

def rStrCat : R2 := fun x y H Q => ∃ i j, x = .str i ∧ y = .str j ∧ i.length + j.length ≤ sizeLine ∧ Q (.str (i ++ j)) H
def rBin (K : Fg) : Operator → R2
  | .Add => fun x y H Q => rI0 (fun i j => .int (i + j)) x y H Q ∨ rStrCat x y H Q ∨ rCatL K x y H Q ∨ rCatA K x y H Q
  | .Sub => rI0 fun i j => .int (i - j)
  | .Mult => fun x y H Q => rI CMul (fun i j => .int (i * j)) x y H Q ∨ rRepT1 K x y H Q ∨ rRepT K x y H Q
  | .FloorDiv => rI CDiv fun i j => .int (i / j)
  | .Mod => rI (fun _ j => 0 < j) fun i j => .int (i % j)
  | .Pow => rI CPow fun i j => .int (i ^ j.toNat)
  | _ => fun _ _ _ _ => False
theorem op_no {f : Value → Value → Sem Value} : OpR X f (fun _ _ _ _ => False) := fun _ _ _ _ _ _ _ _ _ _ _ _ h => h.elim
theorem op_bin : ∀ op : Operator, OpR X (binaryOp op) (rBin X.K op)
  | .Add => op_add.or (op_add_str.or (op_catL.or op_catA))
  | .Sub => op_sub
  | .Mult => op_mul.or (op_repT1.or op_repT)
  | .FloorDiv => op_fdiv
  | .Mod => op_mod
  | .Pow => op_pow
  | .MatMult => op_no
  | .Div => op_no
  | .LShift => op_no
  | .RShift => op_no
  | .BitOr => op_no
  | .BitXor => op_no
  | .BitAnd => op_no
theorem ok_bin {K : Fg} (op : Operator) : OpOk K G (rBin K op) (binD op) := by
  intro e σ H x y dx dy d Q m rx ry hg q
  cases op with
  | Add =>
    cases dx <;> cases dy <;> first | (cases hg; done) | skip
    · simp only [binD, Rs.ok.injEq] at hg
      subst hg
      cases rx.int m
      cases ry.int m
      exact .inl ⟨_, _, rfl, rfl, q _ H (Same.refl H) (.int _)⟩
    · simp only [binD] at hg
      split at hg
      · rename_i hz
        simp only [Rs.ok.injEq] at hg
        subst hg
        cases rx.str m
        cases ry.str m
        exact .inr (.inl ⟨_, _, rfl, rfl, by rw [sl16]; exact hz, q _ H (Same.refl H) (.str _)⟩)
      · cases hg
    · simp only [binD] at hg
      split at hg
      · rename_i hz
        simp only [Rs.ok.injEq] at hg
        subst hg
        obtain ⟨a, xs, rfl, h1, h2⟩ := rx.list m
        obtain ⟨b, ys, rfl, h3, h4⟩ := ry.list m
        refine .inr (.inr (.inl ⟨a, b, xs, ys, rfl, rfl, h1, h3, by rw [sl16, h2.len, h4.len]; exact hz, fun p hp => ?_⟩))
        exact q _ _ (same_new hp) (new_lst m hp (h2.app h4))
      · cases hg
    · simp only [binD] at hg
      split at hg
      · rename_i hz
        simp only [Rs.ok.injEq] at hg
        subst hg
        obtain ⟨a, xs, rfl, h1, h2⟩ := rx.tup m
        obtain ⟨b, ys, rfl, h3, h4⟩ := ry.tup m
        have fx : ∀ ds, Rb K G e σ H (.ref a) (.tuple ds) → Rp K (Fz G e σ H) (.ref a) (.tuple ds) := fun ds r => by
          rcases r with r | ⟨i, h5, h6⟩
          · exact r
          · obtain ⟨_, h7, _, _, h8⟩ := m.own i _ h5
            cases h8
        refine .inr (.inr (.inr ⟨a, b, xs, ys, rfl, rfl, h1, h3, by rw [sl16, h2.len, h4.len]; exact hz, fun e1 => ?_, fun _ e1 => ?_, fun _ _ p hp => ?_⟩))
        · subst e1
          cases h2
          refine q _ H (Same.refl H) ?_
          rcases ry with r | ⟨i, h5, h6⟩
          · exact r
          · obtain ⟨_, h7, _, _, h8⟩ := m.own i _ h5
            cases h8
        · subst e1
          cases h4
          rw [List.append_nil] at q
          exact q _ H (Same.refl H) (fx _ rx)
        · exact q _ _ (same_new hp) (new_tup m hp (h2.app h4))
      · cases hg
  | Sub =>
    cases dx <;> cases dy <;> first | (cases hg; done) | skip
    simp only [binD, Rs.ok.injEq] at hg
    subst hg
    cases rx.int m
    cases ry.int m
    exact ⟨_, _, rfl, rfl, q _ H (Same.refl H) (.int _)⟩
  | Mult =>
    cases dx <;> cases dy <;> first | (cases hg; done) | skip
    · simp only [binD] at hg
      split at hg
      · rename_i hz
        simp only [Rs.ok.injEq] at hg
        subst hg
        cases rx.int m
        cases ry.int m
        refine .inl ⟨_, _, rfl, rfl, ?_, q _ H (Same.refl H) (.int _)⟩
        simp only [Bool.or_eq_true, Bool.and_eq_true, decide_eq_true_eq] at hz
        exact hz.imp (fun h => ⟨by omega, by omega⟩) fun h => ⟨by omega, by omega⟩
      · cases hg
    · rename_i xs k
      simp only [binD] at hg
      split at hg
      · rename_i hz
        simp only [Rs.ok.injEq] at hg
        subst hg
        simp only [Bool.and_eq_true, decide_eq_true_eq, Bool.not_eq_true'] at hz
        obtain ⟨⟨⟨z1, z2⟩, z3⟩, z4⟩ := hz
        cases ry.int m
        obtain ⟨a, ys, rfl, h1, h2⟩ := rx.tup m
        by_cases hk : k = 1
        · subst hk
          refine .inr (.inl ⟨a, ys, rfl, rfl, h1, q _ H (Same.refl H) ?_⟩)
          have e1 : (List.replicate (1 : Int).toNat xs).flatten = xs := by simp
          rw [e1]
          rcases rx with r | ⟨i, h5, h6⟩
          · exact r
          · obtain ⟨_, h7, _, _, h8⟩ := m.own i _ h5
            cases h8
        · refine .inr (.inr ⟨a, k, ys, rfl, rfl, h1, fun z => ?_, by omega, z3, by rw [h2.len]; exact z4, fun p hp => q _ _ (same_new hp) (new_tup m hp (h2.rep _))⟩)
          subst z
          have e1 := h2.len
          rw [show xs = [] from List.eq_nil_of_length_eq_zero e1.symm] at z1
          cases z1
      · cases hg
  | FloorDiv =>
    cases dx <;> cases dy <;> first | (cases hg; done) | skip
    simp only [binD] at hg
    split at hg
    · rename_i hz
      simp only [Rs.ok.injEq] at hg
      subst hg
      cases rx.int m
      cases ry.int m
      simp only [Bool.and_eq_true, decide_eq_true_eq] at hz
      exact ⟨_, _, rfl, rfl, hz, q _ H (Same.refl H) (.int _)⟩
    · cases hg
  | Mod =>
    cases dx <;> cases dy <;> first | (cases hg; done) | skip
    simp only [binD] at hg
    split at hg
    · rename_i hz
      simp only [Rs.ok.injEq] at hg
      subst hg
      cases rx.int m
      cases ry.int m
      exact ⟨_, _, rfl, rfl, hz, q _ H (Same.refl H) (.int _)⟩
    · cases hg
  | Pow =>
    cases dx <;> cases dy <;> first | (cases hg; done) | skip
    simp only [binD] at hg
    split at hg
    · rename_i hz
      simp only [Rs.ok.injEq] at hg
      subst hg
      cases rx.int m
      cases ry.int m
      simp only [Bool.and_eq_true, decide_eq_true_eq] at hz
      exact ⟨_, _, rfl, rfl, ⟨hz.1.1, hz.1.2, by omega⟩, q _ H (Same.refl H) (.int _)⟩
    · cases hg
  | _ => cases dx <;> cases dy <;> cases hg

def rIsA : R2 := fun x y H Q => (y = .non ∧ Q (.bl (decide (x = .non))) H) ∨ rIsB x y H Q
def rCmp (K : Fg) : CmpOp → R2
  | .Eq => rEqP K false
  | .NotEq => rEqP K true
  | .Lt => fun x y H Q => rI0 (fun i j => .bl (decide (i < j))) x y H Q ∨ rLtP K x y H Q
  | .LtE => fun x y H Q => rI0 (fun i j => .bl (decide (i ≤ j))) x y H Q ∨ (∃ i j, x = .str i ∧ y = .str j ∧ Q (.bl (!decide (j.cps.toList < i.cps.toList))) H)
  | .Gt => rI0 fun i j => .bl (decide (j < i))
  | .GtE => rI0 fun i j => .bl (decide (j ≤ i))
  | .Is => rIsA
  | .IsNot => fun x y H Q => y = .non ∧ Q (.bl (!decide (x = .non))) H
  | .In => rInP K false
  | .NotIn => rInP K true
theorem op_cmp (hu : X.A.units + 64 < cLine) : ∀ op : CmpOp, OpR X (compareOp op) (rCmp X.K op)
  | .Eq => op_eqP hu
  | .NotEq => op_neP hu
  | .Lt => op_lt.or (op_ltP hu)
  | .LtE => op_le.or op_le_str
  | .Gt => op_gt
  | .GtE => op_ge
  | .Is => op_isN.or op_isBl
  | .IsNot => op_notN
  | .In => op_inP hu
  | .NotIn => op_notInP hu
theorem shp_nd {n : Nat} {d : D} (h : shp n d = true) : nd d = true := by
  cases d <;> first | rfl | (cases n <;> cases h)
theorem eqD_ok {a b : D} {c : Bool} (h : eqD a b = .ok c) : shp 12 a = true ∧ shp 12 b = true ∧ c = PyData.eqv a b := by
  unfold eqD at h
  split at h
  · rename_i hz
    rw [Bool.and_eq_true] at hz
    cases h
    exact ⟨hz.1, hz.2, rfl⟩
  · cases h
theorem inD_ok {x y : D} {c : Bool} (h : inD x y = .ok c) : shp 12 x = true ∧ ∃ ys, (y = .list ys ∨ y = .tuple ys) ∧ ys.all (shp 12) = true ∧ c = ys.any fun z => PyData.eqv z x := by
  cases y <;> first | (cases h; done) | skip
  all_goals
    simp only [inD] at h
    split at h
    · rename_i hz
      rw [Bool.and_eq_true] at hz
      cases h
      exact ⟨hz.1, _, by first | exact .inl rfl | exact .inr rfl, hz.2, rfl⟩
    · cases h
theorem ok_cmpB {K : Fg} (op : CmpOp) {e : Vn} {σ : Stt} {H : Hp} {x y : V} {dx dy : D} {c : Bool} {Q : VK} (m : Mt' K G e σ H) (rx : Rb K G e σ H x dx) (ry : Rb K G e σ H y dy) (hg : cmpD op dx dy = .ok c) (q : Q (.bl c) H) : rCmp K op x y H Q := by
  cases op with
  | Eq =>
    obtain ⟨h1, h2, rfl⟩ := eqD_ok (show eqD dx dy = .ok c from hg)
    exact ⟨dx, dy, 12, 12, rx.now m (shp_nd h1), ry.now m (shp_nd h2), h1, h2, by decide, q⟩
  | NotEq =>
    obtain ⟨k, h0, h4⟩ := Rs.bind_eq_ok (show (eqD dx dy).bind _ = .ok c from hg)
    obtain ⟨h1, h2, rfl⟩ := eqD_ok h0
    cases h4
    exact ⟨dx, dy, 12, 12, rx.now m (shp_nd h1), ry.now m (shp_nd h2), h1, h2, by decide, q⟩
  | In =>
    obtain ⟨h1, ys, h2, h3, rfl⟩ := inD_ok (show inD dx dy = .ok c from hg)
    refine ⟨dx, ys, 12, 12, rx.now m (shp_nd h1), ?_, h1, h3, by decide, q⟩
    rcases h2 with rfl | rfl
    · exact .inl (ry.now m rfl)
    · exact .inr (ry.now m rfl)
  | NotIn =>
    obtain ⟨k, h0, h4⟩ := Rs.bind_eq_ok (show (inD dx dy).bind _ = .ok c from hg)
    obtain ⟨h1, ys, h2, h3, rfl⟩ := inD_ok h0
    cases h4
    refine ⟨dx, ys, 12, 12, rx.now m (shp_nd h1), ?_, h1, h3, by decide, q⟩
    rcases h2 with rfl | rfl
    · exact .inl (ry.now m rfl)
    · exact .inr (ry.now m rfl)
  | Is =>
    have hb : ∀ {b : D}, dy = b → b = .none → y = .non := fun {b} e1 e2 => by subst e1; subst e2; exact ry.none m
    cases dy with
    | none =>
      have e1 : y = .non := ry.none m
      subst e1
      refine .inl ⟨rfl, ?_⟩
      rw [rx.isNone m]
      cases dx <;> (simp only [cmpD, Rs.ok.injEq] at hg; subst hg; exact q)
    | bool b =>
      cases dx <;> first | (cases hg; done) | skip
      simp only [cmpD, Rs.ok.injEq] at hg
      subst hg
      cases rx.bool m
      cases ry.bool m
      refine .inr ⟨_, _, rfl, rfl, ?_⟩
      first | exact q | (rw [← Bool.beq_eq_decide_eq]; exact q)
    | _ => cases dx <;> cases hg
  | IsNot =>
    cases dy with
    | none =>
      have e1 : y = .non := ry.none m
      subst e1
      refine ⟨rfl, ?_⟩
      rw [rx.isNone m]
      cases dx <;> (simp only [cmpD, Rs.ok.injEq] at hg; subst hg; exact q)
    | _ => cases dx <;> cases hg
  | Lt =>
    cases dx <;> cases dy <;> first | (cases hg; done) | skip
    · simp only [cmpD, Rs.ok.injEq] at hg
      subst hg
      cases rx.int m
      cases ry.int m
      exact .inl ⟨_, _, rfl, rfl, q⟩
    · obtain ⟨h1, h2, h3, h4, rfl⟩ := lessD_ok (show lessD _ _ = .ok c from hg)
      exact .inr ⟨_, _, rx.now m rfl, ry.now m rfl, h1, h2, h3, h4, q⟩
  | LtE =>
    cases dx <;> cases dy <;> first | (cases hg; done) | skip
    · simp only [cmpD, Rs.ok.injEq] at hg
      subst hg
      cases rx.int m
      cases ry.int m
      exact .inl ⟨_, _, rfl, rfl, q⟩
    · simp only [cmpD, Rs.ok.injEq] at hg
      subst hg
      cases rx.str m
      cases ry.str m
      exact .inr ⟨_, _, rfl, rfl, q⟩
  | _ =>
    cases dx <;> cases dy <;> first | (cases hg; done) | skip
    simp only [cmpD, Rs.ok.injEq] at hg
    subst hg
    cases rx.int m
    cases ry.int m
    exact ⟨_, _, rfl, rfl, q⟩
theorem ok_cmp {K : Fg} (op : CmpOp) : OpOk K G (rCmp K op) (fun a b => (cmpD op a b).bind fun c => .ok (.bool c)) := by
  intro e σ H x y dx dy d Q m rx ry hg q
  obtain ⟨c, h1, h2⟩ := Rs.bind_eq_ok hg
  cases h2
  exact ok_cmpB op m rx ry h1 (q _ H (Same.refl H) (.bl c))

/-! ### truth -/
theorem tru_V {K : Fg} {e : Vn} {σ : Stt} {H : Hp} {x : V} {d : D} {c : Bool} (m : Mt' K G e σ H) (r : Rb K G e σ H x d) (h : tru d = .ok c) : TruV K x H c := by
  cases d with
  | none => cases r.none m; cases h; rfl
  | bool b => cases r.bool m; cases h; rfl
  | int i => cases r.int m; cases h; rfl
  | str s =>
    cases r.str m
    simp only [tru] at h
    split at h
    · rename_i hz
      cases h
      exact ⟨by rw [sl16]; exact hz, rfl⟩
    · cases h
  | list xs =>
    obtain ⟨a, ys, rfl, h1, h2⟩ := r.list m
    cases h
    exact .inl ⟨ys, h1, by rw [h2.empty]⟩
  | tuple xs =>
    obtain ⟨a, ys, rfl, h1, h2⟩ := r.tup m
    cases h
    exact .inr (.inl ⟨ys, h1, by rw [h2.empty]⟩)
  | dict _ => cases h

/-! ### places -/
theorem at_atI {xs : List V} {ds : List D} {K : Fg} {F : Hp} (r : RpA K F xs ds) {i : Int} {d : D} (h : at' ds i = some d) : ∃ v, atI xs i = some v ∧ Rp K F v d := by
  unfold at' at h
  split at h
  · rename_i h0
    obtain ⟨v, h1, h2⟩ := r.get h
    refine ⟨v, ?_, h2⟩
    obtain ⟨n, rfl⟩ := Int.eq_ofNat_of_zero_le h0
    exact atI_nat (by simpa using h1)
  · rename_i h0
    split at h
    · rename_i h3
      obtain ⟨v, h1, h2⟩ := r.get h
      refine ⟨v, ?_, h2⟩
      have hl := r.len
      unfold atI ixN
      rw [if_neg h0, if_pos (by omega)]
      show (xs[(i + (xs.length : Int)).toNat]?) = some v
      rw [hl]
      exact h1
    · cases h
theorem at_str {xs : List Nat} {i : Int} {c : Nat} (h : at' xs i = some c) : atI xs i = some c := by
  unfold at' at h
  split at h
  · rename_i h0
    obtain ⟨n, rfl⟩ := Int.eq_ofNat_of_zero_le h0
    exact atI_nat (by simpa using h)
  · rename_i h0
    split at h
    · rename_i h3
      unfold atI ixN
      rw [if_neg h0, if_pos (by omega)]
      exact h
    · cases h
theorem ok_ix {K : Fg} : OpOk K G (rIx K) ixD := by
  intro e σ H x y dx dy d Q m rx ry hg q
  cases dy <;> first | (cases dx <;> cases hg; done) | skip
  cases dx <;> first | (cases hg; done) | skip
  · simp only [ixD] at hg
    split at hg
    · rename_i hz
      split at hg
      · rename_i c hc
        cases hg
        cases rx.str m
        cases ry.int m
        exact .inr (.inr ⟨_, _, c, rfl, rfl, by rw [sl16]; exact hz, at_str hc, q _ H (Same.refl H) (.str _)⟩)
      · cases hg
    · cases hg
  · simp only [ixD] at hg
    split at hg
    · rename_i c hc
      cases hg
      obtain ⟨a, xs, rfl, h1, h2⟩ := rx.list m
      cases ry.int m
      obtain ⟨v, h3, h4⟩ := at_atI h2 hc
      exact .inl ⟨a, xs, _, v, rfl, rfl, h1, h3, q _ H (Same.refl H) h4⟩
    · cases hg
  · simp only [ixD] at hg
    split at hg
    · rename_i c hc
      cases hg
      obtain ⟨a, xs, rfl, h1, h2⟩ := rx.tup m
      cases ry.int m
      obtain ⟨v, h3, h4⟩ := at_atI h2 hc
      exact .inr (.inl ⟨a, xs, _, v, rfl, rfl, h1, h3, q _ H (Same.refl H) h4⟩)
    · cases hg

/-! ### slices -/
theorem bnd_sIx (n d : Nat) (o : Option Int) : HT.sIx n d o = bnd n d o := by cases o <;> rfl
theorem cut_V {K : Fg} {F : Hp} {xs : List V} {ds : List D} (r : RpA K F xs ds) (lo hi : Option Int) : RpA K F (cutV xs lo hi) (cut ds lo hi) := by
  unfold cutV cut
  rw [bnd_sIx, bnd_sIx, r.len]
  exact (r.drop _).take _
def rSlAll (K : Fg) : V → Option Int → Option Int → Hp → VK → Prop := fun x lo hi H Q => (rSlL K x lo hi H Q ∨ rSlA K x lo hi H Q) ∨ rSlS x lo hi H Q
theorem sl_all : SlR X (rSlAll X.K) := (sl_list.or sl_tupA).or sl_str
theorem ok_sl {K : Fg} {e : Vn} {σ : Stt} {H : Hp} {x : V} {dx d : D} {lo hi : Option Int} {Q : VK} (m : Mt' K G e σ H) (rx : Rb K G e σ H x dx) (hg : slD dx lo hi = .ok d) (q : ∀ v H', Same H H' → Rp K (Fz G e σ H') v d → Q v H') : rSlAll K x lo hi H Q := by
  cases dx <;> first | (cases hg; done) | skip
  · simp only [slD] at hg
    split at hg
    · rename_i hz
      cases hg
      cases rx.str m
      exact .inr ⟨_, rfl, by rw [sl16]; exact hz, q _ H (Same.refl H) (.str _)⟩
    · cases hg
  · cases hg
    obtain ⟨a, xs, rfl, h1, h2⟩ := rx.list m
    exact .inl (.inl ⟨a, xs, rfl, h1, fun p hp => q _ _ (same_new hp) (new_lst m hp (cut_V h2 lo hi))⟩)
  · cases hg
    obtain ⟨a, xs, rfl, h1, h2⟩ := rx.tup m
    refine .inl (.inr ⟨a, xs, rfl, h1, fun hw => ?_, fun _ p hp => q _ _ (same_new hp) (new_tup m hp (cut_V h2 lo hi))⟩)
    refine q _ H (Same.refl H) ?_
    have e1 : cut ‹List D› lo hi = ‹List D› := by
      unfold cut
      rw [← bnd_sIx, ← bnd_sIx, ← h2.len, hw.1, hw.2, h2.len]
      simp
    rw [e1]
    rcases rx with r | ⟨i, h5, h6⟩
    · exact r
    · obtain ⟨_, h7, _, _, h8⟩ := m.own i _ h5
      cases h8
end
end Bk
/-! E4b: sum of a tuple. -/
namespace Bk
open PySem PySem.Spec PyProof.Rows L2
theorem sum_tup {prog : Program} {w : World} {A : Around} {E : Value → Shared → Prop} {s : Shared} {l : Addr} {its : List Value} {ns : List Int} {Q : Value → Shared → Prop} (hh : A.handled = none) (hl : s.heap.IsTuple l its.toArray) (hi : IntsAre its ns)
    (h : ∀ h' tk t', (∀ b o, s.heap.get? b = some o → h'.get? b = some o) → Q (.int ns.sum t') { s with heap := h', toks := tk }) : wpAny (model prog w) A (call (.builtin "sum") [.ref l]) Q E s := by
  obtain ⟨xs, e⟩ := hi.allInts.items
  have hn : numsOf (intItems xs).toList = ns := by rw [← e]; exact hi.numsOf
  rw [nums_intItems] at hn
  rw [e] at hl
  have hlt : l < s.heap.objs.size := by obtain ⟨o, ho, _⟩ := hl; exact Heap.lt_size ho
  refine call_sum_walkG (wpAny_pyIter_tuple hl ?_)
  refine ⟨s.heap.objs.size, [s.heap.objs.size, l], [s.heap.objs.size], (intItems xs).size, _, _, numAt xs, rfl, Walks.tuple (A := A.in1) hh s.heap.objs.size l (Nat.ne_of_lt hlt) (intItems xs), ⟨⟨_, Heap.get?_push_size _ rfl, rfl, rfl⟩, hl.push _⟩, fun b hb => ?_, (fun _ _ => intItems_at), fun h' tk t' hk => ?_⟩
  · show b < (Heap.push _ _).objs.size
    rw [Heap.size_push]
    rcases List.mem_cons.mp hb with z | z
    · rw [z]
      exact Nat.lt_succ_self _
    · have z : b = l := by simpa using z
      rw [z]
      exact Nat.lt_succ_of_lt hlt
  · have := h h' tk t' fun b o q => hk b o (fun z => by
      have z : b = s.heap.objs.size := by simpa using z
      have := Heap.lt_size q
      rw [z] at this
      exact Nat.lt_irrefl _ this) (Heap.get?_push_of_some _ q)
    have e2 : preSum (numAt xs) (intItems xs).size = ns.sum := by
      rw [← hn, preSum_eq, List.take_of_length_le (by simp [intItems])]
    rw [e2]
    exact this
def rSumT (K : Fg) : List V → Hp → VK → Prop := fun vs H Q => ∃ (a : Addr) (ns : List Int), vs = [V.ref a] ∧ SqT K H a (ns.map V.int) ∧ Q (.int ns.sum) H
theorem cr_sumT {X : Cx} (hc : X.calm = true) : CallR X (.builtin "sum") (rSumT X.K) := by
  intro pins s σ H vs us Q I r h
  obtain ⟨a, ns, rfl, hs, q⟩ := h
  obtain ⟨its, rv, hl, _⟩ := I.tuple hs
  rw [Vals.ref1 r]
  exact sum_tup (I.ok.hd hc) hl rv.ints fun h' tk t' hk => ⟨.int _, H, I.kept hk, ⟨_, rfl⟩, q⟩
end Bk
/-! E5: built-ins; where a def's body stands; when a term of the language is that of a text. -/
namespace Bk
open PySem PySem.Spec PyProof.Rows L2
/-! ### built-ins -/
def biName : Bi → Str
  | .len => "len"
  | .list => "list"
  | .tuple => "tuple"
  | .int => "int"
  | .str => "str"
  | .max2 => "max"
  | .min2 => "min"
  | .max => "max"
  | .min => "min"
  | .sum => "sum"
  | .bool => "bool"
def biVal : Bi → Value
  | .len => .builtin "len"
  | .list => .type "list"
  | .tuple => .type "tuple"
  | .int => .type "int"
  | .str => .type "str"
  | .max2 => .builtin "max"
  | .min2 => .builtin "min"
  | .max => .builtin "max"
  | .min => .builtin "min"
  | .sum => .builtin "sum"
  | .bool => .type "bool"
theorem boot_bi : ∀ f : Bi, bootBuiltins (biName f) = some (biVal f)
  | .len => by decide +kernel
  | .list => by decide +kernel
  | .tuple => by decide +kernel
  | .int => by decide +kernel
  | .str => by decide +kernel
  | .max2 => by decide +kernel
  | .min2 => by decide +kernel
  | .max => by decide +kernel
  | .min => by decide +kernel
  | .sum => by decide +kernel
  | .bool => by decide +kernel
/-! ### the least of alike data -/
theorem minDD_ok {d m : D} {ds : List D} (h : minDD d ds = .ok m) : (∀ y ∈ d :: ds, shp 11 y = true) ∧ PySem.W.AlikeAll (d :: ds) ∧ m = PySem.W.minD d ds := by
  unfold minDD at h
  split at h
  · rename_i hc
    rw [Bool.and_eq_true, Bool.and_eq_true] at hc
    cases h
    refine ⟨List.all_eq_true.mp hc.1, ⟨fun x hx y hy => List.all_eq_true.mp (List.all_eq_true.mp hc.2.1 x hx) y hy, fun x hx e => ?_⟩, rfl⟩
    have := List.all_eq_true.mp hc.2.2 x hx
    rw [e] at this
    cases this
  · cases h
theorem minD_mem : ∀ (ds : List D) (d : D), PySem.W.minD d ds ∈ d :: ds
  | [], d => List.mem_cons_self
  | x :: ds, d => by
    have h := minD_mem ds (if PySem.W.dataLt x d then x else d)
    show PySem.W.minD (if PySem.W.dataLt x d then x else d) ds ∈ _
    rcases List.mem_cons.mp h with z | z
    · rw [z]
      split
      · exact List.mem_cons_of_mem _ List.mem_cons_self
      · exact List.mem_cons_self
    · exact List.mem_cons_of_mem _ (List.mem_cons_of_mem _ z)
/-- which item it is -/
theorem min_pick {X : Cx} {pins : List (Addr × Obj)} {σ : Stt} {H : Hp} {s : Shared} {vs : List V} {its : List Value} {dss : List D} {ban : Addr → Prop} {i : Nat} {v : Value} {h' : Heap} {m : D} {bs : List Addr} (I : Inv X pins σ H s) (rv : Vals vs its) (rds : RpA X.K (cutH ban H) vs dss)
    (hsh : ∀ y ∈ dss, shp 11 y = true) (hm : m ∈ dss) (hi : its.toArray[i]? = some v) (rd : Reads h' v m bs) (hk : ∀ b o, s.heap.get? b = some o → h'.get? b = some o) : ∃ x, RelV x v ∧ Rp X.K (cutH ban H) x m := by
  have hi : its[i]? = some v := by simpa using hi
  have hlt : i < vs.length := by
    rw [rv.length]
    exact (List.getElem?_eq_some_iff.mp hi).1
  obtain ⟨u, hu, rx⟩ := rv.get (i := i) (List.getElem?_eq_getElem hlt)
  rw [hi] at hu
  cases hu
  obtain ⟨d, hd, rp⟩ := rds.getV (i := i) (List.getElem?_eq_getElem hlt)
  have pd := shp_plain 11 d (hsh d (List.mem_of_getElem? hd))
  have pm := shp_plain 11 m (hsh m hm)
  obtain ⟨as, r1⟩ := Dp.reads I d _ v ((rp.up cutH_sub).dp pd) rx
  have e1 := PySem.SeqAt.readOf_plain pd (PySem.W.reads_keeps hk r1)
  have e2 := PySem.SeqAt.readOf_plain pm rd
  rw [e1] at e2
  subst e2
  exact ⟨_, rx, rp⟩
def rMinD (K : Fg) : List V → Hp → VK → Prop := fun xs H Q => ∃ p vs d ds m ban, xs = [.ref p] ∧ SqL K H p vs ∧ RpA K (cutH ban H) vs (d :: ds) ∧ minDD d ds = .ok m ∧ ∀ v, Rp K (cutH ban H) v m → Q v H
theorem cr_minD {X : Cx} (hc : X.calm = true) (hu : X.A.units + 64 < cLine) : CallR X (.builtin "min") (rMinD X.K) := by
  intro pins s σ H xs us Q I rx h
  obtain ⟨p, vs, d, ds, m, ban, rfl, hs, rds, hm, q⟩ := h
  rw [Vals.ref1 rx]
  obtain ⟨its, rv, pl, _⟩ := I.list hs
  obtain ⟨hsh, hal, rfl⟩ := minDD_ok hm
  obtain ⟨as, ra⟩ := Dp.readsAll I (d :: ds) vs its ((rds.up cutH_sub).dp (shp_plainAll 11 _ hsh)) rv
  have hd := shp_depthAll 11 _ hsh
  refine PySem.W.min_list_data (I.ok.hd hc) pl.isList (by simpa using ra) hal (by omega) fun i v h' tk bs hi rd hk => ?_
  obtain ⟨x, r1, r2⟩ := min_pick I rv rds hsh (minD_mem ds d) hi rd hk
  exact ⟨x, H, I.kept hk, r1, q x r2⟩
def rMinDD (K : Fg) : List V → List V → Hp → VK → Prop := fun xs zs H Q => ∃ p vs d ds m z ban, xs = [.ref p] ∧ zs = [z] ∧ SqL K H p vs ∧ RpA K (cutH ban H) vs (d :: ds) ∧ minDD d ds = .ok m ∧ ∀ v, Rp K (cutH ban H) v m → Q v H
theorem cr_minDD {X : Cx} (hc : X.calm = true) (hu : X.A.units + 64 < cLine) : CallRK X (.builtin "min") ["default"] (rMinDD X.K) := by
  intro pins s σ H xs zs us ws Q I rx rz h
  obtain ⟨p, vs, d, ds, m, z, ban, rfl, rfl, hs, rds, hm, q⟩ := h
  rw [Vals.ref1 rx]
  obtain ⟨its, rv, pl, _⟩ := I.list hs
  obtain ⟨hsh, hal, rfl⟩ := minDD_ok hm
  obtain ⟨as, ra⟩ := Dp.readsAll I (d :: ds) vs its ((rds.up cutH_sub).dp (shp_plainAll 11 _ hsh)) rv
  have hd := shp_depthAll 11 _ hsh
  cases rz with
  | cons r1 r2 =>
    cases r2
    refine PySem.W.min_list_default (I.ok.hd hc) pl.isList (by simpa using ra) hal (by omega) (fun e => nomatch e) fun y ys i v h' tk bs e hi rd hk => ?_
    cases e
    obtain ⟨x, r1, r2⟩ := min_pick I rv rds hsh (minD_mem ds d) hi rd hk
    exact ⟨x, H, I.kept hk, r1, q x r2⟩
def rBi (K : Fg) : Bi → List V → Hp → VK → Prop
  | .len => fun xs H Q => ∃ x n, xs = [x] ∧ LenV K x H n ∧ Q (.int n) H
  | .list => fun xs H Q => ∃ p ys, xs = [.ref p] ∧ (SqL K H p ys ∨ SqT K H p ys) ∧ ∀ l, H l = none → Q (.ref l) (upd H l (.lst ys))
  | .tuple => fun xs H Q => ∃ p ys, xs = [.ref p] ∧ ((SqL K H p ys ∧ ∀ l, H l = none → Q (.ref l) (upd H l (.tup ys))) ∨ (SqT K H p ys ∧ Q (.ref p) H))
  | .int => fun xs H Q => ((∃ i, xs = [.int i] ∧ Q (.int i) H) ∨ ∃ k, xs = [.bl k] ∧ Q (.int (if k then 1 else 0)) H) ∨ ∃ a n, xs = [.str a] ∧ PySem.intText? a = some n ∧ a.length ≤ 640 ∧ Q (.int n) H
  | .bool => fun xs H Q => (∃ i, xs = [.int i] ∧ Q (.bl (i != 0)) H) ∨ ∃ k, xs = [.bl k] ∧ Q (.bl k) H
  | .str => fun xs H Q => ∃ i, xs = [.int i] ∧ i.natAbs.log2 < 1920 ∧ Q (.str (toString i)) H
  | .max2 => fun xs H Q => ∃ i j, xs = [.int i, .int j] ∧ Q (.int (if j > i then j else i)) H
  | .min2 => fun xs H Q => ∃ i j, xs = [.int i, .int j] ∧ Q (.int (if j < i then j else i)) H
  | .max => rMax K
  | .min => fun xs H Q => rMin K xs H Q ∨ rMinD K xs H Q
  | .sum => fun xs H Q => rSum K xs H Q ∨ rSumT K xs H Q
section
variable {X : Cx} {G : Gh} {K : Fg}
theorem cr_bi (hc : X.calm = true) (hu : X.A.units + 64 < cLine) : ∀ f : Bi, CallR X (biVal f) (rBi X.K f)
  | .len => call_len
  | .list => call_list_of
  | .tuple => call_tuple_of
  | .int => call_int1.or call_int_str
  | .bool => call_bool1
  | .str => call_str_int
  | .max2 => call_max2 hc
  | .min2 => call_min2 hc
  | .max => cr_max hc
  | .min => (cr_min hc).or (cr_minD hc hu)
  | .sum => (cr_sum hc).or (cr_sumT hc)
theorem intsD_V {F : Hp} : ∀ {xs : List V} {ds : List D} {is : List Int}, RpA K F xs ds → intsD ds = .ok is → xs = is.map V.int
  | _, _, is, .nil, h => by cases h; rfl
  | _, _, is, .cons (d := d) r q, h => by
    cases d <;> first | (cases h; done) | skip
    obtain ⟨js, h1, h2⟩ := Rs.bind_eq_ok (show (intsD _).bind _ = .ok is from h)
    cases h2
    cases r
    rw [List.map_cons, intsD_V q h1]
theorem foldl_max_mem : ∀ (is : List Int) (i : Int), is.foldl max i ∈ i :: is ∧ ∀ y ∈ i :: is, y ≤ is.foldl max i
  | [], i => ⟨by simp, by simp⟩
  | j :: is, i => by
    obtain ⟨h1, h2⟩ := foldl_max_mem is (max i j)
    rw [List.foldl_cons]
    refine ⟨?_, fun y hy => ?_⟩
    · rcases List.mem_cons.mp h1 with h | h
      · rw [h]
        rcases Int.le_total i j with q | q
        · rw [Int.max_eq_right q]; simp
        · rw [Int.max_eq_left q]; simp
      · simp [h]
    · have h3 := h2 (max i j) (by simp)
      rcases List.mem_cons.mp hy with h | h
      · have := Int.le_max_left i j; omega
      · rcases List.mem_cons.mp h with h | h
        · have := Int.le_max_right i j; omega
        · exact h2 y (by simp [h])
theorem foldl_min_mem : ∀ (is : List Int) (i : Int), is.foldl min i ∈ i :: is ∧ ∀ y ∈ i :: is, is.foldl min i ≤ y
  | [], i => ⟨by simp, by simp⟩
  | j :: is, i => by
    obtain ⟨h1, h2⟩ := foldl_min_mem is (min i j)
    rw [List.foldl_cons]
    refine ⟨?_, fun y hy => ?_⟩
    · rcases List.mem_cons.mp h1 with h | h
      · rw [h]
        rcases Int.le_total i j with q | q
        · rw [Int.min_eq_left q]; simp
        · rw [Int.min_eq_right q]; simp
      · simp [h]
    · have h3 := h2 (min i j) (by simp)
      rcases List.mem_cons.mp hy with h | h
      · have := Int.min_le_left i j; omega
      · rcases List.mem_cons.mp h with h | h
        · have := Int.min_le_right i j; omega
        · exact h2 y (by simp [h])
theorem rba1 {e : Vn} {σ : Stt} {H : Hp} {vs : List V} {d : D} (r : RbA K G e σ H vs [d]) : ∃ v, vs = [v] ∧ Rb K G e σ H v d := by
  cases r with
  | cons h t => cases t; exact ⟨_, rfl, h⟩
theorem rba2 {e : Vn} {σ : Stt} {H : Hp} {vs : List V} {d d2 : D} (r : RbA K G e σ H vs [d, d2]) : ∃ v v2, vs = [v, v2] ∧ Rb K G e σ H v d ∧ Rb K G e σ H v2 d2 := by
  cases r with
  | cons h t =>
    obtain ⟨v2, rfl, h2⟩ := rba1 t
    exact ⟨_, v2, rfl, h, h2⟩
theorem ok_bi (f : Bi) {e : Vn} {σ : Stt} {H : Hp} {vs : List V} {ds : List D} {d : D} {Q : VK} (m : Mt' K G e σ H) (r : RbA K G e σ H vs ds) (hg : biD f ds = .ok d) (q : ∀ v H', Same H H' → Rp K (Fz G e σ H') v d → Q v H') : rBi K f vs H Q := by
  cases ds with
  | nil => cases f <;> cases hg
  | cons d1 ds =>
    cases ds with
    | nil =>
      obtain ⟨v, rfl, rv⟩ := rba1 r
      cases f with
      | len =>
        cases d1 <;> first | (cases hg; done) | skip
        · simp only [biD] at hg
          split at hg
          · rename_i hz
            cases hg
            cases rv.str m
            exact ⟨_, _, rfl, ⟨by rw [sl16]; exact hz, rfl⟩, q _ H (Same.refl H) (.int _)⟩
          · cases hg
        · cases hg
          obtain ⟨a, xs, rfl, h1, h2⟩ := rv.list m
          exact ⟨_, xs.length, rfl, .inl ⟨xs, h1, rfl⟩, q _ H (Same.refl H) (by rw [h2.len]; exact .int _)⟩
        · cases hg
          obtain ⟨a, xs, rfl, h1, h2⟩ := rv.tup m
          exact ⟨_, xs.length, rfl, .inr ⟨xs, h1, rfl⟩, q _ H (Same.refl H) (by rw [h2.len]; exact .int _)⟩
      | list =>
        cases d1 <;> first | (cases hg; done) | skip
        · cases hg
          obtain ⟨a, xs, rfl, h1, h2⟩ := rv.list m
          exact ⟨a, xs, rfl, .inl h1, fun p hp => q _ _ (same_new hp) (new_lst m hp h2)⟩
        · cases hg
          obtain ⟨a, xs, rfl, h1, h2⟩ := rv.tup m
          exact ⟨a, xs, rfl, .inr h1, fun p hp => q _ _ (same_new hp) (new_lst m hp h2)⟩
      | tuple =>
        cases d1 <;> first | (cases hg; done) | skip
        · cases hg
          obtain ⟨a, xs, rfl, h1, h2⟩ := rv.list m
          exact ⟨a, xs, rfl, .inl ⟨h1, fun p hp => q _ _ (same_new hp) (new_tup m hp h2)⟩⟩
        · cases hg
          obtain ⟨a, xs, rfl, h1, h2⟩ := rv.tup m
          refine ⟨a, xs, rfl, .inr ⟨h1, q _ H (Same.refl H) ?_⟩⟩
          rcases rv with r | ⟨i, h5, h6⟩
          · exact r
          · obtain ⟨_, h7, _, _, h8⟩ := m.own i _ h5
            cases h8
      | int =>
        cases d1 <;> first | (cases hg; done) | skip
        · cases hg
          cases rv.int m
          exact .inl (.inl ⟨_, rfl, q _ H (Same.refl H) (.int _)⟩)
        · simp only [biD] at hg
          split at hg
          · rename_i n hn
            split at hg
            · rename_i hz
              cases hg
              cases rv.str m
              exact .inr ⟨_, n, rfl, hn, hz, q _ H (Same.refl H) (.int _)⟩
            · cases hg
          · cases hg
      | bool =>
        cases d1 <;> first | (cases hg; done) | skip
        cases hg
        cases rv.bool m
        exact .inr ⟨_, rfl, q _ H (Same.refl H) (.bl _)⟩
      | str =>
        cases d1 <;> first | (cases hg; done) | skip
        simp only [biD] at hg
        split at hg
        · rename_i hz
          cases hg
          cases rv.int m
          exact ⟨_, rfl, hz, q _ H (Same.refl H) (.str _)⟩
        · cases hg
      | max =>
        cases d1 <;> first | (cases hg; done) | skip
        obtain ⟨is, h1, h2⟩ := Rs.bind_eq_ok (show (intsD _).bind lmax = .ok d from hg)
        obtain ⟨a, xs, rfl, h3, h4⟩ := rv.list m
        have e1 := intsD_V h4 h1
        subst e1
        cases is with
        | nil => cases h2
        | cons i is =>
          cases h2
          refine ⟨a, i :: is, rfl, h3, by simp, fun z hz hu => ?_⟩
          obtain ⟨k1, k2⟩ := foldl_max_mem is i
          have e2 : z = is.foldl max i := Int.le_antisymm (k2 z hz) (hu _ k1)
          subst e2
          exact q _ H (Same.refl H) (.int _)
      | min =>
        cases d1 <;> first | (cases hg; done) | skip
        have hg : minA _ = .ok d := hg
        unfold minA at hg
        split at hg
        · obtain ⟨b, vs, rfl, h3, h4⟩ := rv.list m
          exact .inr ⟨b, vs, _, _, d, fun b => G.ban b ∨ Own e σ b, rfl, h3, h4, hg, fun v r => q v H (Same.refl H) r⟩
        · obtain ⟨is, h1, h2⟩ := Rs.bind_eq_ok (show (intsD _).bind lmin = .ok d from hg)
          obtain ⟨a, xs, rfl, h3, h4⟩ := rv.list m
          have e1 := intsD_V h4 h1
          subst e1
          cases is with
          | nil => cases h2
          | cons i is =>
            cases h2
            refine .inl ⟨a, i :: is, rfl, h3, by simp, fun z hz hu => ?_⟩
            obtain ⟨k1, k2⟩ := foldl_min_mem is i
            have e2 : z = is.foldl min i := Int.le_antisymm (hu _ k1) (k2 z hz)
            subst e2
            exact q _ H (Same.refl H) (.int _)
      | sum =>
        cases d1 <;> first | (cases hg; done) | skip
        · obtain ⟨is, h1, h2⟩ := Rs.bind_eq_ok (show (intsD _).bind (fun is => Rs.ok (.int is.sum)) = .ok d from hg)
          cases h2
          obtain ⟨a, xs, rfl, h3, h4⟩ := rv.list m
          have e1 := intsD_V h4 h1
          subst e1
          exact .inl ⟨a, is, rfl, h3, q _ H (Same.refl H) (.int _)⟩
        · obtain ⟨is, h1, h2⟩ := Rs.bind_eq_ok (show (intsD _).bind (fun is => Rs.ok (.int is.sum)) = .ok d from hg)
          cases h2
          obtain ⟨a, xs, rfl, h3, h4⟩ := rv.tup m
          have e1 := intsD_V h4 h1
          subst e1
          exact .inr ⟨a, is, rfl, h3, q _ H (Same.refl H) (.int _)⟩
      | max2 => cases d1 <;> cases hg
      | min2 => cases d1 <;> cases hg
    | cons d2 ds =>
      cases ds with
      | nil =>
        obtain ⟨v, v2, rfl, rv, rv2⟩ := rba2 r
        cases f with
        | max2 =>
          cases d1 <;> first | (cases hg; done) | skip
          cases d2 <;> first | (cases hg; done) | skip
          cases hg
          cases rv.int m
          cases rv2.int m
          exact ⟨_, _, rfl, q _ H (Same.refl H) (.int _)⟩
        | min2 =>
          cases d1 <;> first | (cases hg; done) | skip
          cases d2 <;> first | (cases hg; done) | skip
          cases hg
          cases rv.int m
          cases rv2.int m
          exact ⟨_, _, rfl, q _ H (Same.refl H) (.int _)⟩
        | _ => cases d1 <;> cases hg
      | cons d3 ds =>
        cases f <;> first | (cases hg; done) | (cases d1 <;> cases hg; done) | (cases d1 <;> cases d2 <;> cases hg; done)
end

/-! ### kinds -/
def tyName : Ty → Str
  | .int => "int"
  | .bool => "bool"
  | .str => "str"
  | .list => "list"
  | .tuple => "tuple"
  | .dict => "dict"
def tyStr : Ty → String
  | .int => "int"
  | .bool => "bool"
  | .str => "str"
  | .list => "list"
  | .tuple => "tuple"
  | .dict => "dict"
theorem boot_ty : ∀ t : Ty, bootBuiltins (tyName t) = some (.type (tyStr t))
  | .int => by decide +kernel
  | .bool => by decide +kernel
  | .str => by decide +kernel
  | .list => by decide +kernel
  | .tuple => by decide +kernel
  | .dict => by decide +kernel
theorem boot_isi : bootBuiltins "isinstance" = some (.builtin "isinstance") := by decide +kernel
def dTy : D → String
  | .none => "NoneType"
  | .bool _ => "bool"
  | .int _ => "int"
  | .str _ => "str"
  | .list _ => "list"
  | .tuple _ => "tuple"
  | .dict _ => "dict"
theorem isn_kit {K : Fg} (d : D) (t : Ty) : PySem.W.kitOne K (.type (dTy d)) (.type (tyStr t)) = some (isnD d t) := by
  refine kit_ty ?_
  cases d <;> cases t <;> first | rfl | decide +kernel
theorem rp_tyX {K : Fg} {H : Hp} {v : V} {d : D} (r : Rp K H v d) (hd : nd d = true) : TyX K H v (.type (dTy d)) := by
  cases r with
  | non => exact .base .non
  | bl b => exact .base (.bl b)
  | int i => exact .base (.int i)
  | str x => exact .base (.str x)
  | lst h _ =>
    rcases h with (h | ⟨o, h⟩) | ⟨o, its, n, h1, h2, _⟩
    · exact .base (.lst h)
    · exact .base (.frz h)
    · exact .kList h1 h2
  | tup h _ =>
    rcases h with (h | ⟨o, h⟩) | ⟨o, its, n, h1, h2, _⟩
    · exact .base (.tup h)
    · exact .fTuple h
    · exact .kTuple h1 h2
  | dK h _ => cases hd
  | dT h _ => cases hd
  | fn h => cases hd

/-! ### a def's promise; where a body stands -/
def spD (K : Fg) (n : Nat) (F : List D → Rs D) : Sp := fun vs H Q _ => vs.length = n ∧ Tabs K H ∧ ∃ (ban : Addr → Prop) (ds : List D) (d : D), (∀ b, ban b → NT (H b)) ∧ RpA K (cutH ban H) vs ds ∧ F ds = .ok d ∧
  ∀ v H', Same H H' → Rp K (cutH ban H') v d → Q v H'
/-- what is known of an exception in the air: its class, its fields -/
def ExcV (K : Fg) (c : Str) (xs : List (Str × D)) (cls : Value) (d : Option Addr) (H : Hp) : Prop :=
  ∃ (C dd : Addr) (fs : List (Str × V)), PySem.W.nsIn K mainGlobals c = some (some (.ref C)) ∧ cls = .ref C ∧ d = some dd ∧ H dd = some (.xd fs) ∧ ∀ f x, xs.lookup f = some x → ∃ v, fs.lookup f = some v ∧ ∀ F, Rp K F v x
theorem ntX {fs : List (Str × V)} : ¬ TbO (.xd fs) := fun ⟨_, z, _⟩ => nomatch z
theorem ExcV.up {K : Fg} {c : Str} {xs : List (Str × D)} {cls : Value} {d : Option Addr} {H H' : Hp} (h : ExcV K c xs cls d H) (s : Same H H') : ExcV K c xs cls d H' := by
  obtain ⟨C, dd, fs, h1, h2, h3, h4, h5⟩ := h
  exact ⟨C, dd, fs, h1, h2, h3, s.is h4 ntX, h5⟩
/-- a def's promise, exceptions too -/
def spX (K : Fg) (n : Nat) (F : List D → Rs D) : Sp := fun vs H Q E => vs.length = n ∧ Tabs K H ∧ ∃ (ban : Addr → Prop) (ds : List D), (∀ b, ban b → NT (H b)) ∧ RpA K (cutH ban H) vs ds ∧ (match F ds with
  | .ok d => ∀ v H', Same H H' → Rp K (cutH ban H') v d → Q v H'
  | .er c xs => ∀ cls d H', Same H H' → ExcV K c xs cls d H' → E cls d H'
  | .st => False)
theorem spX_of {K : Fg} {n : Nat} {F : List D → Rs D} {vs : List V} {H : Hp} {Q : VK} {E E' : XK} (h : spD K n F vs H Q E) : spX K n F vs H Q E' := by
  obtain ⟨h1, h2, ban, ds, d, h3, h4, h5, h6⟩ := h
  exact ⟨h1, h2, ban, ds, h3, h4, by rw [h5]; exact h6⟩
structure Tb where
  N : List Str
  sc : Scope
  fns : List (Str × Nat)
  gls : List Str
  gx : Bool
  xcs : List (Str × List Str) := []
def blts : List Str := ["len", "list", "tuple", "int", "str", "max", "min", "sum", "bool", "dict", "isinstance", "range", "enumerate", "zip", "sorted", "any", "all"]
def lvl (b : Bool) : Nat := if b then 2 else 1
structure FnIn (X : Cx) (b : Bool) (F : List D → Rs D) (f : Str) (n : Nat) : Prop where
  ex : ∃ (k : Nat) (fa : Addr) (fd : FuncData) (ps : List Str), X.mg f = some (.ref fa) ∧ PySem.W.keepIn X.K (.ref fa) = true ∧ FnOk X.prog X.w X.K X.mg X.base CX0 k fa fd ps (spD X.K n F) ∧ Room (k + lvl b) X.A ∧ Binds X.K fd ps []
/-- .. that may raise -/
structure FnInX (X : Cx) (F : List D → Rs D) (f : Str) (n : Nat) : Prop where
  ex : ∃ (k : Nat) (fa : Addr) (fd : FuncData) (ps : List Str), X.mg f = some (.ref fa) ∧ PySem.W.keepIn X.K (.ref fa) = true ∧ FnOk X.prog X.w X.K X.mg X.base (CX X.prog X.w) k fa fd ps (spX X.K n F) ∧ Room k X.A ∧ Binds X.K fd ps []
/-- without an exception -/
theorem calmOk {P : Program} {w : World} {K : Fg} {mg : Str → Option Value} {base : Heap} {k n : Nat} {fa : Addr} {fd : FuncData} {ps : List Str} {F : List D → Rs D} (h : FnOk P w K mg base (CX P w) k fa fd ps (spX K n F)) : FnOk P w K mg base CX0 k fa fd ps (spD K n F) :=
  ⟨fun vs H Q E q => h.len vs H Q E (spX_of q), fun A outer s H args us vs Q E hr e0 hb r q => codeAny_mono (h.run A outer s H args us vs Q (fun _ _ _ => False) hr e0 hb r (spX_of q)) fun res s' z => by
    cases res with
    | ok fl => cases fl <;> exact z
    | error e =>
      obtain ⟨_, _, _, _, _, _, _, _, _, _, _, _, z⟩ := z
      exact z.elim⟩
/-- what the promise of an own __init__ is -/
def spInit (C : Addr) (fs : List Str) : Sp := fun vs H Q _ => ∃ a xs, vs = .ref a :: xs ∧ xs.length = fs.length ∧ H a = some (exo a C none) ∧ ∀ d fs', H d = none → d ≠ a → (∀ f, fs'.lookup f = (fs.zip xs).lookup f) → Q .non (upd (upd H d (exd d fs')) a (exo a C (some d)))
/-- an own class of exceptions -/
structure XcIn (X : Cx) (c : Str) (fs : List Str) : Prop where
  ex : ∃ (k : Nat) (C fI : Addr) (fd : FuncData), X.mg c = some (.ref C) ∧ PySem.W.nsIn X.K mainGlobals c = some (some (.ref C)) ∧ OexC X.K C ∧ XfC X.K C ∧ (∀ f ∈ fs, PySem.W.findIn X.K (.ref C) f = some none) ∧
    PySem.W.findIn X.K (.ref C) "__init__" = some (some (.ref fI)) ∧ PySem.W.typeIn X.K (.ref fI) = some (.type "function") ∧ FnOk X.prog X.w X.K X.mg X.base (CX X.prog X.w) k fI fd ("self" :: fs) (spInit C fs) ∧ Room (k + 1) X.A ∧ Binds X.K fd ("self" :: fs) []
structure Gd (X : Cx) (C : Cn) (T : Tb) : Prop where
  N : X.N = T.N
  sc : X.env.scope = T.sc
  nd : T.N.Nodup
  calm : X.calm = true
  bl : ∀ x ∈ blts, X.mg x = none
  gl : ∀ j x d, T.gls[j]? = some x → C.gl j = .ok d → ∃ u v, X.mg x = some u ∧ RelV v u ∧ ∀ F, Rp X.K F v d
  fn : ∀ j f n, T.fns[j]? = some (f, n) → FnIn X T.gx (C.fn j) f n
  un : X.A.units + 64 < cLine
  dp : T.gx = true → X.A.depth + 8 < recursionLimit ∧ X.A.units + 100 < cLine
  ns : ∀ (j : Nat) (f : Str) (n : Nat), T.fns[j]? = some (f, n) → ∃ fa, PySem.W.nsIn X.K mainGlobals f = some (some (.ref fa))
  cd : T.gx = true → ∃ c P, X.env.code = .ref c ∧ TK X.K c P ∧ GxR.TabB X.base X.mg c P

/-! ### the term of a text -/
def dbg (x : Str) : Bool := !(x == ("__debug__" : Str)) && !(x == ("__classdict__" : Str))
def visB (sc : Scope) (x : Str) : Bool := match sc.names.lookup x with
  | some .local => true
  | some .cell => true
  | some .free => true
  | _ => false
def locB (sc : Scope) (x : Str) : Bool := match sc.names.lookup x with
  | some .local => true
  | some .cell => true
  | _ => false
def glB (sc : Scope) (x : Str) : Bool := match sc.names.lookup x with
  | some .globalImplicit => dbg x
  | _ => false
def nmB (T : Tb) (i : Nat) (x : Str) : Bool := decide (T.N[i]? = some x) && visB T.sc x && dbg x
def notStar : Expr → Bool
  | .Starred .. => false
  | _ => true
def notSet : Expr → Bool
  | .Set .. => false
  | _ => true
def notSlice : Expr → Bool
  | .Slice .. => false
  | _ => true
def badOk : Expr → Bool
  | .Starred .. => false
  | .ListComp .. => false
  | .SetComp .. => false
  | .DictComp .. => false
  | .UnaryOp .Not _ _ => false
  | .BoolOp .. => false
  | .IfExp .. => false
  | .Compare .. => false
  | _ => true
def ckk : List Key → List (Option Expr) → Bool
  | [], [] => true
  | k :: ks, x :: xs => (match k, x with
    | .inr s, some (.Constant (.str t) _ _) => decide (s = t)
    | .inl i, some (.Constant (.int j) _ _) => decide (i = j)
    | _, _ => false) && ckk ks xs
  | _, _ => false
def notCall : Expr → Bool
  | .Call .. => false
  | _ => true
def mtName : Mt → Str
  | .join => "join"
  | .split => "split"
def opB : Operator → Bool
  | .Add => true
  | .Sub => true
  | .Mult => true
  | .FloorDiv => true
  | .Mod => true
  | .Pow => true
  | _ => false
mutual
def ckg (T : Tb) (own : List Nat) : Tg → Expr → Bool
  | .nm i, x => match x with
    | .Name n _ => decide (T.N[i]? = some n) && locB T.sc n && own.contains i
    | _ => false
  | .tp ts, x => match x with
    | .Tuple es _ _ => ckgs T own ts es
    | _ => false
def ckgs (T : Tb) (own : List Nat) : Tgs → List Expr → Bool
  | .nil, [] => true
  | .cons t r, x :: xs => notStar x && ckg T own t x && ckgs T own r xs
  | _, _ => false
end
def notLst : Expr → Bool
  | .List .. => false
  | .Set .. => false
  | _ => true
/-- the scope of a generator expression -/
def gnC (sc : Scope) : Bool := !sc.isCoroutine && sc.names.all (fun y => decide (y.2 ≠ .cell)) && decide (sc.names.lookup (".0" : Str) = some NameKind.local)
def isTup : Expr → Bool
  | .Tuple .. => true
  | _ => false
/-- how it stands: a value that is given away, one that is lent, a test -/
inductive Md where
  | val | lent | test
def Md.lent? : Md → Bool
  | .val => false
  | _ => true
def Md.sub : Md → Md
  | .test => .test
  | _ => .lent
def Md.own : Md → Md
  | .test => .test
  | _ => .val
mutual
def ck (T : Tb) (m : Md) : Xp → Expr → Bool
  | .var i, x => match x with
    | .Name n _ => nmB T i n
    | _ => false
  | .pk i, x => m.lent? && (match x with
    | .Name n _ => nmB T i n
    | _ => false)
  | .non, x => match x with
    | .Constant .none _ _ => true
    | _ => false
  | .bl v, x => match x with
    | .Constant (.bool w) _ _ => v == w
    | _ => false
  | .int i, x => match x with
    | .Constant (.int j) _ _ => decide (i = j)
    | _ => false
  | .str s, x => match x with
    | .Constant (.str t) _ _ => decide (s = t)
    | _ => false
  | .glo j, x => match x with
    | .Name m _ => decide (T.gls[j]? = some m) && glB T.sc m
    | _ => false
  | .bin op a c, x => match x with
    | .BinOp l o r _ => decide (op = o) && ck T .lent a l && ck T .lent c r
    | _ => false
  | .neg a, x => match x with
    | .UnaryOp .USub y _ => ck T .lent a y
    | _ => false
  | .nt a, x => match x with
    | .UnaryOp .Not y _ => ck T m.sub a y
    | _ => false
  | .bo op as, x => match x with
    | .BoolOp o ys _ => decide (op = o) && ckl T m.own as ys
    | _ => false
  | .ife c a d, x => match x with
    | .IfExp t y z _ => ck T .test c t && ck T m.own a y && ck T m.own d z
    | _ => false
  | .cmp op a c, x => match x with
    | .Compare l [o] [r] _ => decide (op = o) && ck T .lent a l && ck T .lent c r && notSet r
    | _ => false
  | .cmp2 op op2 a c d, x => match x with
    | .Compare l [o, o2] [r, z] _ => decide (op = o) && decide (op2 = o2) && ck T .lent a l && ck T .lent c r && ck T .lent d z && notSet z
    | _ => false
  | .tup as, x => match x with
    | .Tuple ys _ _ => decide (ys.length ≤ 1000) && ckl T .val as ys
    | _ => false
  | .lst as, x => match x with
    | .List ys _ => decide (ys.length ≤ 1000) && ckl T .val as ys
    | _ => false
  | .ix a c, x => match x with
    | .Subscript l r _ => ck T .lent a l && ck T .lent c r && notSlice r
    | _ => false
  | .sl a lo hi, x => match x with
    | .Subscript l (.Slice l2 h2 none _) _ => ck T .lent a l && cko T lo l2 && cko T hi h2
    | _ => false
  | .rev a, x => match x with
    | .Subscript l (.Slice none none (some (.UnaryOp .USub (.Constant (.int i) _ _) _)) _) _ => decide (i = 1) && ck T .lent a l
    | _ => false
  | .call j as, x => match x with
    | .Call (.Name n _) ys [] _ => glB T.sc n && decide (T.fns[j]? = some (n, ys.length)) && ckl T .val as ys && ys.all notStar
    | _ => false
  | .callL j as, x => match x with
    | .Call (.Name n _) ys [] _ => glB T.sc n && decide (T.fns[j]? = some (n, ys.length)) && ckl T .lent as ys && ys.all notStar
    | _ => false
  | .bi f as, x => match x with
    | .Call (.Name n _) ys [] _ => decide (n = biName f) && glB T.sc n && ckl T .lent as ys && ys.all notStar && !ys.isEmpty
    | _ => false
  | .bad, x => badOk x
  | .dnew t, x => match x with
    | .Dict [] [] _ => true
    | _ => false
  | .ddis ks as, x => match x with
    | .Dict kes vs _ => ckk ks kes && decide (kes.length = vs.length) && !kes.isEmpty && decide (kes.length ≤ 15) && ckl T .val as vs
    | _ => false
  | .dix a c, x => match x with
    | .Subscript l r _ => ck T .lent a l && ck T .lent c r && notSlice r
    | _ => false
  | .din neg a c, x => match x with
    | .Compare l [o] [r] _ => decide (o = (if neg then .NotIn else .In)) && ck T .lent a l && ck T .lent c r && notSet r
    | _ => false
  | .mxd mn a d, x => match x with
    | .Call (.Name n _) [y] [⟨some k, z, _⟩] _ => decide (n = (if mn then ("min" : Str) else "max")) && glB T.sc n && ck T .lent a y && notStar y && decide (k = "default") && ck T .val d z
    | _ => false
  | .mnk j a, x => match x with
    | .Call (.Name n _) [y] [⟨some k, .Name f _, _⟩] _ => decide (n = ("min" : Str)) && glB T.sc n && ck T .lent a y && notStar y && decide (k = "key") && glB T.sc f && decide (T.fns[j]? = some (f, 1))
    | _ => false
  | .qa al el t w own, x => match x with
    | .Call (.Name n _) [.GeneratorExp y [⟨tg, it, [], a⟩] scope _] [] _ => T.gx && decide (n = (if al then ("all" : Str) else "any")) && glB T.sc n && decide (a = 0) && blkC T.N T.sc scope (own.map fun i => (T.N.getD i "", i)) && gnC scope && ckw T .lent tg w it && notLst it && ckg { T with sc := scope } own t tg && ck { T with sc := scope, gx := false } .val el y
    | _ => false
  | .mt1 m o a, x => match x with
    | .Call (.Attribute p n ap) [y] [] cp => decide (n = mtName m) && notCall p && ck T .lent o p && ck T .lent a y && notStar y && (ap.endLine == cp.line)
    | _ => false
  | .isn a t, x => match x with
    | .Call (.Name n _) [y, .Name n2 _] [] _ => decide (n = "isinstance") && glB T.sc n && ck T .lent a y && notStar y && decide (n2 = tyName t) && glB T.sc n2
    | _ => false
  | .lrg w, x => false
  | .fv y, x => match x with
    | .Name n _ => decide (y = n) && glB T.sc n && T.fns.any (fun p => decide (p.1 = n))
    | _ => false
  | .cv i cs as, x => match x with
    | .Call (.Name n _) (y :: ys) [] _ => nmB T i n && cs.all (fun p => decide (T.fns[p.2]? = some (p.1, ys.length + 1))) && ckl T .val as (y :: ys) && (y :: ys).all notStar
    | _ => false
  | .lc el t w cs own, x => match x with
    | .ListComp y [⟨tg, it, ifs, a⟩] scope _ => decide (a = 0) && blkC T.N T.sc scope (own.map fun i => (T.N.getD i "", i)) && ckw T .lent tg w it && notSet it && ckg { T with sc := scope } own t tg && ckc { T with sc := relS scope T.sc } cs ifs && ck { T with sc := relS scope T.sc } .val el y
    | _ => false
  | .lc2 el t w cs t2 w2 cs2 own own2, x => match x with
    | .ListComp y [⟨tg, it, ifs, a⟩, ⟨tg1, it1, ifs1, a1⟩] scope _ => decide (a = 0) && decide (a1 = 0) && blkC T.N T.sc scope (own.map fun i => (T.N.getD i "", i)) && (own2.all fun i => decide (i ∈ own)) && ckw T .lent tg w it && notSet it && notSet it1 && ckg { T with sc := scope } own t tg && ckc { T with sc := relS scope T.sc } cs ifs && ckw { T with sc := relS scope T.sc } .val tg1 w2 it1 && ckg { T with sc := scope } own2 t2 tg1 && ckc { T with sc := relS scope T.sc } cs2 ifs1 && ck { T with sc := relS scope T.sc } .val el y
    | _ => false
def ckl (T : Tb) (m : Md) : Xps → List Expr → Bool
  | .nil, [] => true
  | .cons a r, x :: xs => ck T m a x && ckl T m r xs
  | _, _ => false
def ckc (T : Tb) : Xps → List Expr → Bool
  | .nil, [] => true
  | .cons a r, xs => match r, xs with
    | .nil, [x] => ck T .test a x
    | _, _ => false
  | _, _ => false
def cko (T : Tb) : Xo → Option Expr → Bool
  | .no, none => true
  | .so a, some x => ck T .lent a x
  | _, _ => false
def ckw (T : Tb) (m : Md) (tg : Expr) : Wk → Expr → Bool
  | .sq a, x => ck T m a x
  | .tx a, x => ck T m a x
  | .r1 a, x => match x with
    | .Call (.Name n _) [y] [] _ => decide (n = "range") && glB T.sc n && ck T .lent a y && notStar y
    | _ => false
  | .r2 a c, x => match x with
    | .Call (.Name n _) [y, z] [] _ => decide (n = "range") && glB T.sc n && ck T .lent a y && notStar y && ck T .lent c z && notStar z
    | _ => false
  | .r3 _ _ _, x => false
  | .dk a, x => ck T .val a x
  | .en a, x => match x with
    | .Call (.Name n _) [y] [] _ => decide (n = "enumerate") && glB T.sc n && ck T m a y && notStar y && isTup tg
    | _ => false
  | .zp a c, x => match x with
    | .Call (.Name n _) [y, z] [] _ => decide (n = "zip") && glB T.sc n && ck T m a y && notStar y && ck T m c z && notStar z && isTup tg
    | _ => false
end
end Bk
/-! E6: targets, things walked, and the soundness of expressions. -/
namespace Bk
open PySem PySem.Spec PyProof.Rows L2
section
variable {X : Cx} {C : Cn} {T : Tb} {G : Gh}
theorem star_cons {x : Expr} {xs : List Expr} {env : Env} (h : notStar x = true) : starEach (x :: xs) env = (false, eval x env) :: starEach xs env := by
  cases x <;> first | rfl | cases h
theorem star_all {pos : Pos} {env : Env} : ∀ {xs : List Expr}, xs.all notStar = true → (backTo pos (starEach xs env)).any (·.1) = false
  | [], _ => rfl
  | x :: xs, h => by
    simp only [List.all_cons, Bool.and_eq_true] at h
    rw [star_cons h.1]
    have := star_all (pos := pos) (env := env) h.2
    simp only [backTo, List.map_cons, List.any_cons, Bool.false_or] at this ⊢
    exact this
theorem target_cons {x : Expr} {xs : List Expr} {env : Env} (h : notStar x = true) : assignEach (x :: xs) env = (false, assign x env) :: assignEach xs env := by
  cases x <;> first | rfl | cases h
theorem noSet {x : Expr} (h : notSet x = true) (op : CmpOp) : behindInMarks op x = false := by
  cases x <;> first | rfl | cases h
theorem noSetF {x : Expr} (h : notSet x = true) (env : Env) (v : Value) : foldedSetIterable x env v = pure v := by
  cases x <;> first | rfl | cases h
theorem visOf (g : Gd X C T) {x : Str} (h : visB T.sc x = true) : Vis X.env.scope x := by
  unfold visB at h
  unfold Vis
  rw [g.sc]
  split at h <;> first | (rename_i e; exact .inl e) | (rename_i e; exact .inr (.inl e)) | (rename_i e; exact .inr (.inr e)) | cases h
theorem locOf (g : Gd X C T) {x : Str} (h : locB T.sc x = true) : L2.Loc X.env.scope x := by
  unfold locB at h
  unfold L2.Loc
  rw [g.sc]
  split at h <;> first | (rename_i e; exact .inl e) | (rename_i e; exact .inr e) | cases h
theorem glOf (g : Gd X C T) {x : Str} (h : glB T.sc x = true) : Gl X x ∧ (x == ("__debug__" : Str)) = false := by
  unfold glB at h
  split at h
  · rename_i e
    unfold dbg at h
    simp only [Bool.and_eq_true, Bool.not_eq_true'] at h
    refine ⟨?_, h.1⟩
    show X.env.scope.names.lookup x = _
    rw [g.sc]
    exact e
  · cases h
theorem dbgOf {x : Str} (h : dbg x = true) : (x == ("__debug__" : Str)) = false ∧ (x == ("__classdict__" : Str)) = false := by
  unfold dbg at h
  simpa only [Bool.and_eq_true, Bool.not_eq_true'] using h
theorem peVar (g : Gd X C T) {i : Nat} {x : Str} {pos : Pos} (h : nmB T i x = true) : PE X (.Name x pos) (tVar i) := by
  unfold nmB at h
  simp only [Bool.and_eq_true, decide_eq_true_eq] at h
  obtain ⟨⟨h1, h2⟩, h3⟩ := h
  exact pe_var (by rw [g.N]; exact h1) (visOf g h2) (dbgOf h3).1 (dbgOf h3).2

/-! ### targets -/
def Apart (own : List Nat) (σ σ' : Stt) : Prop := σ'.length = σ.length ∧ ∀ j, j ∉ own → σ'[j]? = σ[j]?
def gT (K : Fg) (G : Gh) (own : List Nat) (f : D → Vn → Rs Vn) : TG := fun v σ H Q => ∃ e d e', Mt' K G e σ H ∧ Rp K (Fz G e σ H) v d ∧ f d e = .ok e' ∧
  ∀ σ', Mt' K G e' σ' H → Same (Fz G e σ H) (Fz G e' σ' H) → Apart own σ σ' → Q σ' H
def gTs (K : Fg) (G : Gh) (own : List Nat) (f : List D → Vn → Rs Vn) : TGs := fun vs σ H Q => ∃ e ds e', Mt' K G e σ H ∧ RpA K (Fz G e σ H) vs ds ∧ f ds e = .ok e' ∧
  ∀ σ', Mt' K G e' σ' H → Same (Fz G e σ H) (Fz G e' σ' H) → Apart own σ σ' → Q σ' H
theorem pgImp {x : Expr} {t t' : TG} (h : PG X x t) (i : ∀ v σ H Q, t' v σ H Q → t v σ H Q) : PG X x t' := ⟨fun pins s σ H v u Q I r q => h.run pins s σ H v u Q I r (i v σ H Q q)⟩
theorem pgsImp {x : List Expr} {t t' : TGs} (h : PGs X x t) (i : ∀ v σ H Q, t' v σ H Q → t v σ H Q) : PGs X x t' := ⟨fun pins s σ H v u Q I r q => h.run pins s σ H v u Q I r (i v σ H Q q)⟩
theorem fz_put {K : Fg} {e : Vn} {σ : Stt} {H : Hp} (m : Mt' K G e σ H) {i : Nat} {v : V} {d : D} (hi : i < e.length) : Same (Fz G e σ H) (Fz G (pt e i (some (.v d))) (σ.set i (some v)) H) :=
  cutH_same (fun b h => .inl (h.imp id (own_put_sub m.len hi rfl))) (Same.refl H)
theorem slotLt (g : Gd X C T) {i : Nat} {x : Str} (h : T.N[i]? = some x) : i < X.N.length := by
  rw [g.N]
  exact (List.getElem?_eq_some_iff.mp h).1
theorem tgt_len {own : List Nat} {env : Env} : ∀ {ts : Tgs} {es : List Expr}, ckgs T own ts es = true → (assignEach es env).length = es.length ∧ (assignEach es env).findIdx? (·.1) = none
  | .nil, [], _ => ⟨rfl, rfl⟩
  | .nil, _ :: _, h => by simp [ckgs] at h
  | .cons _ _, [], h => by simp [ckgs] at h
  | .cons t r, x :: xs, h => by
    simp only [ckgs, Bool.and_eq_true] at h
    obtain ⟨h1, h2⟩ := tgt_len (env := env) h.2
    rw [target_cons h.1.1]
    refine ⟨by rw [List.length_cons, h1, List.length_cons], ?_⟩
    rw [List.findIdx?_cons]
    simp [h2]
theorem asgs_len : ∀ {ts : Tgs} {es : List Expr} {own : List Nat} {ds : List D} {e e' : Vn}, ckgs T own ts es = true → asgs ts ds e = .ok e' → ds.length = es.length
  | .nil, [], _, [], _, _, _, _ => rfl
  | .nil, [], _, _ :: _, _, _, _, h => by simp [asgs] at h
  | .nil, _ :: _, _, _, _, _, h, _ => by simp [ckgs] at h
  | .cons _ _, [], _, _, _, _, h, _ => by simp [ckgs] at h
  | .cons _ _, _ :: _, _, [], _, _, _, h => by simp [asgs] at h
  | .cons t r, x :: xs, own, d :: ds, e, e', h, h2 => by
    simp only [ckgs, Bool.and_eq_true] at h
    obtain ⟨e1, h3, h4⟩ := Rs.bind_eq_ok (show (asg t d e).bind _ = .ok e' by simpa only [asgs] using h2)
    rw [List.length_cons, List.length_cons, asgs_len h.2 h4]
end
mutual
theorem sG : ∀ (t : Tg) {X : Cx} {T : Tb} {G : Gh} {own : List Nat} {x : Expr}, X.N = T.N → T.N.Nodup → X.calm = true → (∀ y, locB T.sc y = true → L2.Loc X.env.scope y ∧ (X.fn y = true ∨ X.env.scope.names.lookup y = some .local)) → ckg T own t x = true → PG X x (gT X.K G own (asg t))
  | .nm i, X, T, G, own, x, hN, nd, hc, hf, h => by
    cases x <;> first | (cases h; done) | skip
    rename_i n pos
    simp only [ckg, Bool.and_eq_true, decide_eq_true_eq] at h
    obtain ⟨⟨h1, h2⟩, h3⟩ := h
    refine pgImp (pg_name (i := i) (by rw [hN]; exact nd) (by rw [hN]; exact h1) (hf n h2).1 (hf n h2).2) fun v σ H Q q => ?_
    obtain ⟨e, d, e', m, r, he, q⟩ := q
    simp only [asg, Rs.ok.injEq] at he
    subst he
    by_cases hi : i < e.length
    · refine q _ (m.put hi r) (fz_put m hi) ⟨by rw [List.length_set], fun j hj => ?_⟩
      rw [List.getElem?_set_ne]
      intro z
      subst z
      exact hj (List.contains_iff_mem.mp h3)
    · rw [pt_set, List.set_eq_of_length_le (by omega)] at q
      rw [m.len] at hi
      show Q (σ.set i (some v)) H
      rw [List.set_eq_of_length_le (by omega)]
      exact q _ m (Same.refl _) ⟨rfl, fun _ _ => rfl⟩
  | .tp ts, X, T, G, own, x, hN, nd, hc, hf, h => by
    cases x <;> first | (cases h; done) | skip
    rename_i es k pos
    simp only [ckg] at h
    obtain ⟨l1, l2⟩ := tgt_len (env := X.env) h
    refine pgImp (pg_tup hc (sGs ts (G := G) hN nd hc hf h) l1 l2) fun v σ H Q q => ?_
    obtain ⟨e, d, e', m, r, he, q⟩ := q
    cases d <;> first | (simp [asg] at he; done) | skip
    simp only [asg] at he
    cases r with
    | tup h1 h2 =>
      refine ⟨_, _, rfl, sameT cutH_sub h1, ?_, e, _, e', m, h2, he, q⟩
      rw [h2.len, asgs_len h he]
theorem sGs : ∀ (ts : Tgs) {X : Cx} {T : Tb} {G : Gh} {own : List Nat} {xs : List Expr}, X.N = T.N → T.N.Nodup → X.calm = true → (∀ y, locB T.sc y = true → L2.Loc X.env.scope y ∧ (X.fn y = true ∨ X.env.scope.names.lookup y = some .local)) → ckgs T own ts xs = true → PGs X xs (gTs X.K G own (asgs ts))
  | .nil, X, T, G, own, xs, hN, nd, hc, hf, h => by
    cases xs with
    | cons _ _ => simp [ckgs] at h
    | nil =>
      refine pgsImp pgs_nil fun vs σ H Q q => ?_
      obtain ⟨e, ds, e', m, r, he, q⟩ := q
      cases ds with
      | cons _ _ => simp [asgs] at he
      | nil =>
        simp only [asgs, Rs.ok.injEq] at he
        subst he
        cases r
        exact ⟨rfl, q σ m (Same.refl _) ⟨rfl, fun _ _ => rfl⟩⟩
  | .cons t ts, X, T, G, own, xs, hN, nd, hc, hf, h => by
    cases xs with
    | nil => simp [ckgs] at h
    | cons x xs =>
      simp only [ckgs, Bool.and_eq_true] at h
      refine pgsImp (pgs_cons (sG t (G := G) hN nd hc hf h.1.2) (sGs ts (G := G) hN nd hc hf h.2) (by rw [target_cons h.1.1]; rfl)) fun vs σ H Q q => ?_
      obtain ⟨e, ds, e', m, r, he, q⟩ := q
      cases ds with
      | nil => simp [asgs] at he
      | cons d ds =>
        obtain ⟨e1, h3, h4⟩ := Rs.bind_eq_ok (show (asg t d e).bind _ = .ok e' by simpa only [asgs] using he)
        cases r with
        | cons r1 r2 =>
          refine ⟨_, _, rfl, e, d, e1, m, r1, h3, fun σ1 m1 s1 a1 => ?_⟩
          exact ⟨e1, ds, e', m1, r2.up s1, h4, fun σ2 m2 s2 a2 => q σ2 m2 (s1.trans s2) ⟨a2.1.trans a1.1, fun j hj => (a2.2 j hj).trans (a1.2 j hj)⟩⟩
end

/-! ### what is walked -/
structure Wlk (K : Fg) (B F : Hp) (J : It) (ds : List D) : Prop where
  lim : ds.length ≤ 16777216
  goes : ∀ i H, i < ds.length → Same B H → J.go i H
  stops : ∀ H, Same B H → J.stop ds.length H
  yields : ∀ i H x H', i < ds.length → Same B H → J.yld i H x H' → Same H H' ∧ ∃ d, ds[i]? = some d ∧ ∀ p : Addr → Prop, (∀ b, p b → NT (H b)) → Same F (cutH p H) → Rp K (cutH p H') x d
/-- lent, or quiet through a loop's turns -/
def tW (K : Fg) (G : Gh) (lent : Bool) (f : Vn → Rs (List D)) : TI := fun σ H R => ∃ e ds, Mt' K G e σ H ∧ f e = .ok ds ∧ ∀ J H', Same H H' → Wlk K (if lent then H' else Fz G e σ H') (Fz G e σ H') J ds → R J H'
section
variable {X : Cx} {C : Cn} {T : Tb} {G : Gh} {K : Fg}
theorem piImp {tg x : Expr} {t t' : TI} (h : PI X tg x t) (i : ∀ σ H R, t' σ H R → t σ H R) : PI X tg x t' := ⟨fun pins s σ H R I q => h.run pins s σ H R I (i σ H R q)⟩
theorem piOr {tg x : Expr} {t t' : TI} (h : PI X tg x t) (h' : PI X tg x t') : PI X tg x (fun σ H R => t σ H R ∨ t' σ H R) := ⟨fun pins s σ H R I q => q.elim (h.run pins s σ H R I) (h'.run pins s σ H R I)⟩
theorem wlk_list {B F : Hp} {a : Addr} {xs : List V} {ds : List D} (h : SqL K B a xs) (r : RpA K F xs ds) (lim : xs.length ≤ 16777216) : Wlk K B F (Itl K a) ds := by
  have hl := r.len
  refine ⟨by omega, fun i H hi s => walk_list.goes i H (by omega) (s.seq h), fun H s => by rw [← hl]; exact walk_list.stops H (s.seq h), fun i H x H' hi s y => ?_⟩
  obtain ⟨rfl, h2⟩ := walk_list.yields i H x H' (by omega) (s.seq h) y
  obtain ⟨d, h3, h4⟩ := r.getV h2
  exact ⟨Same.refl _, d, h3, fun p _ sf => h4.up sf⟩
theorem wlk_tup {B F : Hp} {a : Addr} {xs : List V} {ds : List D} (h : SqT K B a xs) (r : RpA K F xs ds) (lim : xs.length ≤ 16777216) : Wlk K B F (Itt K a) ds := by
  have hl := r.len
  refine ⟨by omega, fun i H hi s => walk_tup.goes i H (by omega) (sameT s h), fun H s => by rw [← hl]; exact walk_tup.stops H (sameT s h), fun i H x H' hi s y => ?_⟩
  obtain ⟨rfl, h2⟩ := walk_tup.yields i H x H' (by omega) (sameT s h) y
  obtain ⟨d, h3, h4⟩ := r.getV h2
  exact ⟨Same.refl _, d, h3, fun p _ sf => h4.up sf⟩
theorem rng_get {lo : Int} {n i : Nat} (h : i < n) : (rng lo n)[i]? = some (.int (lo + (i : Int))) := by
  unfold rng
  simp [h]
theorem rng_len {lo : Int} {n : Nat} : (rng lo n).length = n := by unfold rng; simp
theorem wlk_rng {B F : Hp} {lo : Int} {n : Nat} (lim : n ≤ 16777216) : Wlk K B F (Itr lo n) (rng lo n) := by
  refine ⟨by rw [rng_len]; exact lim, fun i H hi s => ?_, fun H s => ?_, fun i H x H' hi s y => ?_⟩
  · rw [rng_len] at hi; exact hi
  · rw [rng_len]; exact Nat.le_refl n
  · rw [rng_len] at hi
    obtain ⟨rfl, rfl⟩ := y
    exact ⟨Same.refl _, _, rng_get hi, fun p _ _ => .int _⟩
theorem str_get {z : Str} {i c : Nat} (h : z.cps[i]? = some c) : (z.cps.toList.map fun c => (PyData.str ⟨#[c]⟩ : D))[i]? = some (.str ⟨#[c]⟩) := by
  rw [List.getElem?_map, Array.getElem?_toList, h]
  rfl
theorem wlk_str {B F : Hp} {z : Str} (lim : z.length ≤ 16777216) : Wlk K B F (Its z) (z.cps.toList.map fun c => (PyData.str ⟨#[c]⟩ : D)) := by
  have hl : (z.cps.toList.map fun c => (PyData.str ⟨#[c]⟩ : D)).length = z.cps.size := by simp
  refine ⟨by rw [hl]; exact lim, fun i H hi s => ?_, fun H s => ?_, fun i H x H' hi s y => ?_⟩
  · rw [hl] at hi; exact hi
  · rw [hl]; exact Nat.le_refl z.cps.size
  · obtain ⟨rfl, c, h1, rfl⟩ := y
    exact ⟨Same.refl _, _, str_get h1, fun p _ _ => .str _⟩
end
end Bk
/-! E7: the soundness of expressions. -/
namespace Bk
open PySem PySem.Spec PyProof.Rows L2
section
variable {X : Cx} {C : Cn} {T : Tb} {G : Gh}
/-- the reading for any ghost -/
def eE (K : Fg) (f : Vn → Rs D) : TE := fun σ H Q => ∃ G, tE K G f σ H Q
def eQ (K : Fg) (f : Vn → Rs Bool) : TT := fun σ H Q => ∃ G, tQ K G f σ H Q
def eG (K : Fg) (own : List Nat) (f : D → Vn → Rs Vn) : TG := fun v σ H Q => ∃ G, gT K G own f v σ H Q
theorem peG {x : Expr} {f : Vn → Rs D} (h : ∀ G, PE X x (tE X.K G f)) : PE X x (eE X.K f) := ⟨fun pins s σ H Q I ⟨G, q⟩ => (h G).run pins s σ H Q I q⟩
theorem ptsG {x : List Expr} {f : Vn → Rs Bool} (h : ∀ G, PTs X x (tQ X.K G f)) : PTs X x (eQ X.K f) := ⟨fun pins s σ H Q I ⟨G, q⟩ => (h G).run pins s σ H Q I q⟩
theorem pgG {x : Expr} {own : List Nat} {f : D → Vn → Rs Vn} (h : ∀ G, PG X x (gT X.K G own f)) : PG X x (eG X.K own f) := ⟨fun pins s σ H v u Q I r ⟨G, q⟩ => (h G).run pins s σ H v u Q I r q⟩
/-- lists and tuples of the heap are not too long -/
def Bd (K : Fg) (H : Hp) (v : V) : Prop := ∀ a, v = .ref a → (∀ xs, SqL K H a xs → xs.length ≤ 16777216) ∧ (∀ xs, SqT K H a xs → xs.length ≤ 16777216)
theorem peBd {x : Expr} {t : TE} (h : PE X x t) : PE X x (fun σ H Q => t σ H fun v H' => Bd X.K H' v → Q v H') := ⟨fun pins s σ H Q I q => thn (h.run pins s σ H _ I q) fun u s' ⟨v, H', I', r, q'⟩ =>
  ⟨v, H', I', r, q' fun a e => ⟨fun xs hx => by obtain ⟨_, _, _, z⟩ := I'.list hx; rw [sl16] at z; exact z, fun xs hx => by obtain ⟨_, _, _, z⟩ := I'.tuple hx; rw [sl16] at z; exact z⟩⟩⟩
theorem Rp.seqD {K : Fg} {e : Vn} {σ : Stt} {H : Hp} {v : V} {d : D} {ds : List D} (m : Mt' K G e σ H) (r : Rb K G e σ H v d) (h : seqD d = .ok ds) : ∃ a xs, v = .ref a ∧ RpA K (Fz G e σ H) xs ds ∧ ((d = .list ds ∧ SqL K H a xs) ∨ (d = .tuple ds ∧ SqT K H a xs)) := by
  cases d <;> first | (cases h; done) | skip
  · cases h
    obtain ⟨a, xs, h1, h2, h3⟩ := r.list m
    exact ⟨a, xs, h1, h3, .inl ⟨rfl, h2⟩⟩
  · cases h
    obtain ⟨a, xs, h1, h2, h3⟩ := r.tup m
    exact ⟨a, xs, h1, h3, .inr ⟨rfl, h2⟩⟩
theorem frozL {K : Fg} {e : Vn} {σ : Stt} {H : Hp} {a : Addr} {ds : List D} (r : Rp K (Fz G e σ H) (.ref a) (.list ds)) : ∃ xs, SqL K (Fz G e σ H) a xs ∧ RpA K (Fz G e σ H) xs ds := by
  cases r with
  | lst h q => exact ⟨_, h, q⟩
theorem frozT {K : Fg} {e : Vn} {σ : Stt} {H : Hp} {a : Addr} {ds : List D} (r : Rp K (Fz G e σ H) (.ref a) (.tuple ds)) : ∃ xs, SqT K (Fz G e σ H) a xs ∧ RpA K (Fz G e σ H) xs ds := by
  cases r with
  | tup h q => exact ⟨_, h, q⟩

/-! ### lengths -/
theorem evs_len : ∀ {as : Xps} {xs : List Expr} {m : Md} {e : Vn} {ds : List D}, ckl T m as xs = true → evs C as e = .ok ds → ds.length = xs.length
  | .nil, [], _, _, ds, _, h => by simp only [evs, Rs.ok.injEq] at h; subst h; rfl
  | .nil, _ :: _, _, _, _, h, _ => by simp [ckl] at h
  | .cons _ _, [], _, _, _, h, _ => by simp [ckl] at h
  | .cons a r, x :: xs, m, e, ds, h, h2 => by
    simp only [ckl, Bool.and_eq_true] at h
    simp only [evs] at h2
    obtain ⟨d, h3, h4⟩ := Rs.bind_eq_ok h2
    obtain ⟨es, h5, h6⟩ := Rs.bind_eq_ok h4
    cases h6
    rw [List.length_cons, List.length_cons, evs_len h.2 h5]

/-! ### what is shown of each term -/
structure PX (C : Cn) (a : Xp) : Prop where
  val : ∀ {X : Cx} {T : Tb} {G : Gh} {x : Expr}, Gd X C T → ck T .val a x = true → PE X x (tE X.K G (ev C a))
  lent : ∀ {X : Cx} {T : Tb} {G : Gh} {x : Expr}, Gd X C T → ck T .lent a x = true → PE X x (tB X.K G (ev C a))
  test : ∀ {X : Cx} {T : Tb} {G : Gh} {x : Expr}, Gd X C T → ck T .test a x = true → PT X x (tQ X.K G fun e => (ev C a e).bind tru)
def trsV (K : Fg) (C : Cn) : List Key → Xps → List (TE × TE)
  | k :: ks, .cons a r => (tC (kV k), eE K (ev C a)) :: trsV K C ks r
  | _, _ => []
structure PXs (C : Cn) (as : Xps) : Prop where
  val : ∀ {X : Cx} {T : Tb} {G : Gh} {xs : List Expr}, Gd X C T → ckl T .val as xs = true → xs.all notStar = true → PA X xs (tA X.K G (evs C as))
  lent : ∀ {X : Cx} {T : Tb} {G : Gh} {xs : List Expr}, Gd X C T → ckl T .lent as xs = true → xs.all notStar = true → PA X xs (tAB X.K G (evs C as))
  bo : ∀ {X : Cx} {T : Tb} {G : Gh} {xs : List Expr} {op : BoolOp} {pos : Pos}, Gd X C T → ckl T .val as xs = true → xs ≠ [] → PE X (.BoolOp op xs pos) (tE X.K G (evb C op as))
  boT : ∀ {X : Cx} {T : Tb} {G : Gh} {xs : List Expr} {op : BoolOp} {pos : Pos}, Gd X C T → ckl T .test as xs = true → xs ≠ [] → PW X (.BoolOp op xs pos) (tQ X.K G fun e => (evb C op as e).bind tru)
  cs : ∀ {X : Cx} {T : Tb} {G : Gh} {xs : List Expr}, Gd X C T → ckc T as xs = true → PTs X xs (tQ X.K G (evc C as))
  pps : ∀ {X : Cx} {T : Tb} {ks : List Key} {kes : List (Option Expr)} {xs : List Expr} {pos : Pos}, Gd X C T → ckk ks kes = true → kes.length = xs.length → ckl T .val as xs = true → PPs X pos kes xs (trsV X.K C ks as)
def tOp' (K : Fg) (G : Gh) (f : Vn → Rs (Option Int)) : TO := fun σ H Q => ∃ e o, Mt' K G e σ H ∧ f e = .ok o ∧ ∀ H', Same H H' → Q o H'
structure PXo (C : Cn) (o : Xo) : Prop where
  part : ∀ {X : Cx} {T : Tb} {G : Gh} {x : Option Expr}, Gd X C T → cko T o x = true → PO X x (tOp' X.K G (evo C o))
structure PXw (C : Cn) (w : Wk) : Prop where
  walk : ∀ {X : Cx} {T : Tb} {G : Gh} {m : Md} {tg x : Expr}, Gd X C T → ckw T m tg w x = true → m ≠ .test → PI X tg x (tW X.K G m.lent? (evw C w))

theorem tQ_tru {K : Fg} {f : Vn → Rs D} {σ : Stt} {H : Hp} {Q : Bool → Hp → Prop} (h : tQ K G (fun e => (f e).bind tru) σ H Q) : tB K G f σ H fun x H' => ∃ k, TruV K x H' k ∧ Q k H' := by
  obtain ⟨e, b, m, hf, q⟩ := h
  obtain ⟨d, h1, h2⟩ := Rs.bind_eq_ok hf
  exact ⟨e, d, m, h1, fun v H' s r => ⟨b, tru_V (m.up s) r h2, q H' s⟩⟩
/-- an expression that is no test of its own kind -/
def plainT : Expr → Bool
  | .UnaryOp .Not _ _ => false
  | .BoolOp .. => false
  | .IfExp .. => false
  | .Compare .. => false
  | _ => true
theorem isTrue_of {x : Expr} (h : plainT x = true) (env : Env) (whole : Sem Value) : isTrue x env whole = (do let v ← whole; standAt x.pos; holding [v] (truthy v)) := by
  cases x <;> first | rfl | (cases h; done) | skip
  rename_i op _ _
  cases op <;> first | rfl | cases h
theorem bindOk {α β : Type} {r : Rs α} {f : α → Rs β} {a : α} {o : Rs β} (h : r = .ok a) (h2 : f a = o) : r.bind f = o := by
  rw [h]
  exact h2
theorem lift {a : Xp} (val : ∀ {X : Cx} {T : Tb} {G : Gh} {x : Expr}, Gd X C T → ck T .val a x = true → PE X x (tE X.K G (ev C a))) (h1 : ∀ T x, ck T .lent a x = ck T .val a x) (h2 : ∀ T x, ck T .test a x = ck T .val a x)
    (h3 : ∀ T x, ck T .val a x = true → plainT x = true) : PX C a where
  val := val
  lent := fun g h => peImp (val g (by rw [← h1]; exact h)) fun _ _ _ => tB_tE
  test := fun {X T G x} g h => by
    have h' : ck T .val a x = true := by rw [← h2]; exact h
    exact ptImp (pt_truth (val (G := G) g h') fun wh => isTrue_of (h3 T x h') X.env wh) fun σ H Q q => tB_tE (tQ_tru q)

/-! ### names, constants -/
theorem gt_some {e : Vn} {i : Nat} {d : D} (h : vl (gt e i) = .ok d) : gt e i = some (.v d) := by
  cases q : gt e i with
  | none => rw [q] at h; cases h
  | some s =>
    rw [q] at h
    cases s with
    | v d' => cases h; rfl
    | o d' => cases h
theorem gt_own {e : Vn} {i : Nat} {d : D} (h : ow (gt e i) = .ok d) : gt e i = some (.o d) := by
  cases q : gt e i with
  | none => rw [q] at h; cases h
  | some s =>
    rw [q] at h
    cases s with
    | v d' => cases h
    | o d' => cases h; rfl
theorem pVar (i : Nat) : PX C (.var i) := lift (fun {X T G x} g h => by
    cases x <;> first | (cases h; done) | skip
    simp only [ck] at h
    refine peImp (peVar g h) fun σ H Q q => ?_
    obtain ⟨e, d, m, hf, q⟩ := q
    obtain ⟨v, h1, h2⟩ := m.val i d (gt_some (by simpa only [ev] using hf))
    exact ⟨v, h1, q v H (Same.refl H) h2⟩) (fun _ x => by cases x <;> rfl) (fun _ x => by cases x <;> rfl) fun _ x h => by cases x <;> first | rfl | cases h
theorem pkB {X : Cx} {T : Tb} {G : Gh} {i : Nat} {x : Expr} (g : Gd X C T) (h : (match x with
    | .Name n _ => nmB T i n
    | _ => false) = true) : PE X x (tB X.K G (ev C (.pk i))) ∧ plainT x = true := by
  cases x <;> first | (cases h; done) | skip
  refine ⟨peImp (peVar g h) fun σ H Q q => ?_, rfl⟩
  obtain ⟨e, d, m, hf, q⟩ := q
  have h0 := gt_own (by simpa only [ev] using hf)
  obtain ⟨a, h1, _, _, h2⟩ := m.own i d h0
  exact ⟨.ref a, h1, q _ H (Same.refl H) (.inr ⟨i, h0, h1⟩)⟩
theorem pPk (i : Nat) : PX C (.pk i) where
  val := fun g h => by simp [ck, Md.lent?] at h
  lent := fun {X T G x} g h => (pkB g h).1
  test := fun {X T G x} g h => by
    obtain ⟨h1, h2⟩ := pkB (G := G) (i := i) (x := x) g h
    exact ptImp (pt_truth h1 fun wh => isTrue_of h2 X.env wh) fun σ H Q q => tQ_tru q
theorem pConst {a : Xp} {v : V} {d : D} (hr : ∀ {K : Fg} {F : Hp}, Rp K F v d) (hev : ∀ e, ev C a e = .ok d) (hx : ∀ (X : Cx) (T : Tb) (x : Expr), ck T .val a x = true → PE X x (tC v) ∧ plainT x = true) (Xw : Cx)
    (h1 : ∀ T x, ck T .lent a x = ck T .val a x) (h2 : ∀ T x, ck T .test a x = ck T .val a x) : PX C a := lift (fun {X T G x} g h => peImp (hx X T x h).1 fun σ H Q q => by
    obtain ⟨e, d', m, hf, q⟩ := q
    rw [hev] at hf
    cases hf
    exact q v H (Same.refl H) hr) h1 h2 fun T x h => (hx Xw T x h).2
end
section
variable {X : Cx} {C : Cn} {T : Tb} {G : Gh}
theorem pNon (Xw : Cx) : PX C .non := pConst (Xw := Xw) (v := .non) .non (fun _ => rfl) (fun X T x h => by
    cases x <;> first | (cases h; done) | skip
    rename_i c _ _
    cases c <;> first | (cases h; done) | skip
    exact ⟨pe_non, rfl⟩) (fun _ x => by cases x <;> rfl) (fun _ x => by cases x <;> rfl)
theorem pBl (Xw : Cx) (b : Bool) : PX C (.bl b) := pConst (Xw := Xw) (v := .bl b) (.bl b) (fun _ => rfl) (fun X T x h => by
    cases x <;> first | (cases h; done) | skip
    rename_i c _ _
    cases c <;> first | (cases h; done) | skip
    simp only [ck, beq_iff_eq] at h
    subst h
    exact ⟨pe_bl, rfl⟩) (fun _ x => by cases x <;> rfl) (fun _ x => by cases x <;> rfl)
theorem pInt (Xw : Cx) (i : Int) : PX C (.int i) := pConst (Xw := Xw) (v := .int i) (.int i) (fun _ => rfl) (fun X T x h => by
    cases x <;> first | (cases h; done) | skip
    rename_i c _ _
    cases c <;> first | (cases h; done) | skip
    simp only [ck, decide_eq_true_eq] at h
    subst h
    exact ⟨pe_int, rfl⟩) (fun _ x => by cases x <;> rfl) (fun _ x => by cases x <;> rfl)
theorem pStr (Xw : Cx) (s : Str) : PX C (.str s) := pConst (Xw := Xw) (v := .str s) (.str s) (fun _ => rfl) (fun X T x h => by
    cases x <;> first | (cases h; done) | skip
    rename_i c _ _
    cases c <;> first | (cases h; done) | skip
    simp only [ck, decide_eq_true_eq] at h
    subst h
    exact ⟨pe_str, rfl⟩) (fun _ x => by cases x <;> rfl) (fun _ x => by cases x <;> rfl)
theorem pGlo (j : Nat) : PX C (.glo j) := lift (fun {X T G x} g h => by
    cases x <;> first | (cases h; done) | skip
    rename_i y pos
    simp only [ck, Bool.and_eq_true, decide_eq_true_eq] at h
    obtain ⟨h1, h2⟩ := h
    obtain ⟨h3, h4⟩ := glOf g h2
    refine ⟨fun pins s σ H Q I q => ?_⟩
    obtain ⟨e, d, m, hf, q⟩ := q
    obtain ⟨u, v, h5, h6, h7⟩ := g.gl j y d h1 (by simpa only [ev] using hf)
    exact (pe_glob h3 h5 h6 h4).run pins s σ H Q I (q v H (Same.refl H) (h7 _))) (fun _ x => by cases x <;> rfl) (fun _ x => by cases x <;> rfl) fun _ x h => by cases x <;> first | rfl | cases h

/-! ### operators -/
theorem pBin {a b : Xp} (op : Operator) (ha : PX C a) (hb : PX C b) : PX C (.bin op a b) := lift (fun {X T G x} g h => by
    cases x <;> first | (cases h; done) | skip
    simp only [ck, Bool.and_eq_true, decide_eq_true_eq] at h
    obtain ⟨⟨rfl, h1⟩, h2⟩ := h
    exact peImp (pe_op (op_bin op) (ha.lent (G := G) g h1) (hb.lent (G := G) g h2)) fun σ H Q q => (ok_bin op).read q) (fun _ x => by cases x <;> rfl) (fun _ x => by cases x <;> rfl) fun _ x h => by cases x <;> first | rfl | cases h
theorem pIx {a b : Xp} (ha : PX C a) (hb : PX C b) : PX C (.ix a b) := lift (fun {X T G x} g h => by
    cases x <;> first | (cases h; done) | skip
    rename_i l r pos
    simp only [ck, Bool.and_eq_true] at h
    obtain ⟨⟨h1, h2⟩, h3⟩ := h
    exact peImp (pe_ix ix_seq (ha.lent (G := G) g h1) (hb.lent (G := G) g h2) fun o i => by cases r <;> first | rfl | cases h3) fun σ H Q q => ok_ix.read q) (fun _ x => by cases x <;> rfl) (fun _ x => by cases x <;> rfl) fun _ x h => by cases x <;> first | rfl | cases h
theorem asInt_of {d : D} {i : Int} (h : asInt d = .ok i) : d = .int i := by
  cases d <;> cases h
  rfl
theorem pNeg {a : Xp} (ha : PX C a) : PX C (.neg a) := lift (fun {X T G x} g h => by
    cases x <;> first | (cases h; done) | skip
    rename_i op y pos
    cases op <;> first | (cases h; done) | skip
    simp only [ck] at h
    refine peImp (pe_un un_neg (ha.lent (G := G) g h)) fun σ H Q q => ?_
    obtain ⟨e, d, m, hf, q⟩ := q
    obtain ⟨dx, h1, h2⟩ := Rs.bind_eq_ok (show (ev C a e).bind _ = .ok d by simpa only [ev] using hf)
    obtain ⟨i, h3, h4⟩ := Rs.bind_eq_ok h2
    cases h4
    cases asInt_of h3
    exact ⟨e, _, m, h1, fun v H1 s r => ⟨i, r.int (m.up s), q _ H1 s (.int _)⟩⟩) (fun _ x => by cases x <;> first | rfl | (rename_i op _ _; cases op <;> rfl)) (fun _ x => by cases x <;> first | rfl | (rename_i op _ _; cases op <;> rfl)) fun _ x h => by
      cases x <;> first | rfl | (cases h; done) | skip
      rename_i op _ _
      cases op <;> first | rfl | cases h
theorem pNt {a : Xp} (ha : PX C a) : PX C (.nt a) := by
  have val : ∀ {X : Cx} {T : Tb} {G : Gh} {x : Expr}, Gd X C T → ck T .val (.nt a) x = true → PE X x (tE X.K G (ev C (.nt a))) := fun {X T G x} g h => by
    cases x <;> first | (cases h; done) | skip
    rename_i op y pos
    cases op <;> first | (cases h; done) | skip
    simp only [ck, Md.sub] at h
    refine peImp (pe_notT (ha.lent (G := G) g h)) fun σ H Q q => ?_
    obtain ⟨e, d, m, hf, q⟩ := q
    obtain ⟨dx, h1, h2⟩ := Rs.bind_eq_ok (show (ev C a e).bind _ = .ok d by simpa only [ev] using hf)
    obtain ⟨c, h3, h4⟩ := Rs.bind_eq_ok h2
    cases h4
    exact ⟨e, dx, m, h1, fun v H1 s r => ⟨c, tru_V (m.up s) r h3, q _ H1 s (.bl _)⟩⟩
  refine ⟨val, fun {X T G x} g h => peImp (val (T := T) g (by cases x <;> exact h)) fun _ _ _ => tB_tE, fun {X T G x} g h => ?_⟩
  cases x <;> first | (cases h; done) | skip
  rename_i op y pos
  cases op <;> first | (cases h; done) | skip
  simp only [ck, Md.sub] at h
  refine ptImp (pt_not (ha.test (G := G) g h)) fun σ H Q q => ?_
  obtain ⟨e, b, m, hf, q⟩ := q
  obtain ⟨d, h1, h2⟩ := Rs.bind_eq_ok hf
  obtain ⟨dx, h3, h4⟩ := Rs.bind_eq_ok (show (ev C a e).bind _ = .ok d by simpa only [ev] using h1)
  obtain ⟨c, h5, h6⟩ := Rs.bind_eq_ok h4
  cases h6
  cases h2
  exact ⟨e, c, m, bindOk h3 h5, fun H' s => q H' s⟩
theorem cmpTest {a b : Xp} {op : CmpOp} {σ : Stt} {H : Hp} {K : Fg} {Q : Bool → Hp → Prop} (q : tQ K G (fun e => (ev C (.cmp op a b) e).bind tru) σ H Q) : tTest (tOp (rCmp K op) (tB K G (ev C a)) (tB K G (ev C b))) σ H Q := by
  obtain ⟨e, c, m, hf, q⟩ := q
  obtain ⟨d, h1, h2⟩ := Rs.bind_eq_ok hf
  refine (ok_cmp op).read (Q := fun x H' => ∃ k, x = .bl k ∧ Q k H') ⟨e, d, m, by simpa only [ev] using h1, fun v H' s r => ?_⟩
  obtain ⟨_, h3, h4⟩ := Rs.bind_eq_ok (show (ev C a e).bind _ = .ok d by simpa only [ev] using h1)
  obtain ⟨_, h5, h6⟩ := Rs.bind_eq_ok h4
  obtain ⟨k, h7, h8⟩ := Rs.bind_eq_ok h6
  cases h8
  cases h2
  cases r
  exact ⟨_, rfl, q H' s⟩
theorem pCmp {a b : Xp} (op : CmpOp) (ha : PX C a) (hb : PX C b) : PX C (.cmp op a b) := by
  have key : ∀ {T : Tb} {x : Expr} {m : Md}, ck T m (.cmp op a b) x = true → ∃ l r pos, x = .Compare l [op] [r] pos ∧ ck T .lent a l = true ∧ ck T .lent b r = true ∧ notSet r = true := fun {T x m} h => by
    unfold ck at h
    split at h
    · simp only [Bool.and_eq_true, decide_eq_true_eq] at h
      obtain ⟨⟨⟨rfl, h1⟩, h2⟩, h3⟩ := h
      exact ⟨_, _, _, rfl, h1, h2, h3⟩
    · cases h
  have val : ∀ {X : Cx} {T : Tb} {G : Gh} {x : Expr} {m : Md}, Gd X C T → ck T m (.cmp op a b) x = true → PE X x (tE X.K G (ev C (.cmp op a b))) := fun {X T G x m} g h => by
    obtain ⟨l, r, pos, rfl, h1, h2, h3⟩ := key h
    exact peImp (pe_cmpR (op_cmp g.un op) (ha.lent (G := G) g h1) (hb.lent (G := G) g h2) (noSet h3 op)) fun σ H Q q => (ok_cmp op).read q
  refine ⟨fun g h => val g h, fun g h => peImp (val g h) fun _ _ _ => tB_tE, fun {X T G x} g h => ?_⟩
  obtain ⟨l, r, pos, rfl, h1, h2, h3⟩ := key h
  exact ptImp (pt_cmpR (op_cmp g.un op) (ha.lent (G := G) g h1) (hb.lent (G := G) g h2) (noSet h3 op)) fun σ H Q q => cmpTest q
theorem chainRead {a b c : Xp} {op op2 : CmpOp} {σ : Stt} {H : Hp} {K : Fg} {Q : VK} {e : Vn} {k : Bool} (m : Mt' K G e σ H) (hf : ev C (.cmp2 op op2 a b c) e = .ok (.bool k)) (q : ∀ H', Same H H' → Q (.bl k) H') :
    tChain (rCmp K op) (rCmp K op2) (tB K G (ev C a)) (tB K G (ev C b)) (tB K G (ev C c)) σ H Q := by
  obtain ⟨dx, h1, h2⟩ := Rs.bind_eq_ok (show (ev C a e).bind _ = .ok _ by simpa only [ev] using hf)
  obtain ⟨dy, h3, h4⟩ := Rs.bind_eq_ok h2
  obtain ⟨k1, h5, h6⟩ := Rs.bind_eq_ok h4
  refine ⟨e, dx, m, h1, fun x H1 s1 r1 => ⟨e, dy, m.up s1, h3, fun y H2 s2 r2 => ?_⟩⟩
  have m2 := m.up (s1.trans s2)
  refine ok_cmpB op m2 (r1.up s2) r2 h5 ⟨k1, rfl, ?_⟩
  cases k1 with
  | false =>
    simp only [Bool.false_eq_true, if_false, Rs.ok.injEq] at h6 ⊢
    cases h6
    exact q H2 (s1.trans s2)
  | true =>
    simp only [if_true] at h6 ⊢
    obtain ⟨dz, h7, h8⟩ := Rs.bind_eq_ok h6
    obtain ⟨k2, h9, h10⟩ := Rs.bind_eq_ok h8
    cases h10
    refine ⟨e, dz, m2, h7, fun z H3 s3 r3 => ?_⟩
    exact ok_cmpB op2 (m2.up s3) (r2.up s3) r3 h9 (q H3 ((s1.trans s2).trans s3))
theorem cmp2_bool {a b c : Xp} {op op2 : CmpOp} {e : Vn} {d : D} (h : ev C (.cmp2 op op2 a b c) e = .ok d) : ∃ k, d = .bool k := by
  obtain ⟨dx, h1, h2⟩ := Rs.bind_eq_ok (show (ev C a e).bind _ = .ok _ by simpa only [ev] using h)
  obtain ⟨dy, h3, h4⟩ := Rs.bind_eq_ok h2
  obtain ⟨k1, h5, h6⟩ := Rs.bind_eq_ok h4
  cases k1 with
  | false =>
    simp only [Bool.false_eq_true, if_false, Rs.ok.injEq] at h6
    exact ⟨false, h6.symm⟩
  | true =>
    simp only [if_true] at h6
    obtain ⟨dz, h7, h8⟩ := Rs.bind_eq_ok h6
    obtain ⟨k2, h9, h10⟩ := Rs.bind_eq_ok h8
    cases h10
    exact ⟨k2, rfl⟩
theorem pCmp2 {a b c : Xp} (op op2 : CmpOp) (ha : PX C a) (hb : PX C b) (hc : PX C c) : PX C (.cmp2 op op2 a b c) := by
  have key : ∀ {T : Tb} {x : Expr} {m : Md}, ck T m (.cmp2 op op2 a b c) x = true → ∃ l r z pos, x = .Compare l [op, op2] [r, z] pos ∧ ck T .lent a l = true ∧ ck T .lent b r = true ∧ ck T .lent c z = true ∧ notSet z = true := fun {T x m} h => by
    unfold ck at h
    split at h
    · simp only [Bool.and_eq_true, decide_eq_true_eq] at h
      obtain ⟨⟨⟨⟨⟨rfl, rfl⟩, h1⟩, h2⟩, h3⟩, h4⟩ := h
      exact ⟨_, _, _, _, rfl, h1, h2, h3, h4⟩
    · cases h
  have val : ∀ {X : Cx} {T : Tb} {G : Gh} {x : Expr} {m : Md}, Gd X C T → ck T m (.cmp2 op op2 a b c) x = true → PE X x (tE X.K G (ev C (.cmp2 op op2 a b c))) := fun {X T G x m} g h => by
    obtain ⟨l, r, z, pos, rfl, h1, h2, h3, h4⟩ := key h
    refine peImp (pe_chain (op_cmp g.un op) (op_cmp g.un op2) (ha.lent (G := G) g h1) (hb.lent (G := G) g h2) (hc.lent (G := G) g h3) (noSet h4 op2)) fun σ H Q q => ?_
    obtain ⟨e, d, mm, hf, q⟩ := q
    obtain ⟨k, rfl⟩ := cmp2_bool hf
    exact chainRead mm hf fun H' s => q _ H' s (.bl k)
  refine ⟨fun g h => val g h, fun g h => peImp (val g h) fun _ _ _ => tB_tE, fun {X T G x} g h => ?_⟩
  obtain ⟨l, r, z, pos, rfl, h1, h2, h3, h4⟩ := key h
  refine ptImp (pt_chain (op_cmp g.un op) (op_cmp g.un op2) (ha.lent (G := G) g h1) (hb.lent (G := G) g h2) (hc.lent (G := G) g h3) (noSet h4 op2)) fun σ H Q q => ?_
  obtain ⟨e, k, mm, hf, q⟩ := q
  obtain ⟨d, h5, h6⟩ := Rs.bind_eq_ok hf
  obtain ⟨k', rfl⟩ := cmp2_bool h5
  cases h6
  exact chainRead (Q := fun x H' => ∃ k, x = .bl k ∧ Q k H') mm h5 fun H' s => ⟨_, rfl, q H' s⟩
/-- a if t else b, as a test -/
theorem pt_ifE {t y z : Expr} {tt ty tz : TT} {pos : Pos} (h1 : PT X t tt) (h2 : PT X y ty) (h3 : PT X z tz) : PT X (.IfExp t y z pos) (fun σ H Q => tt σ H fun c H1 => if c = true then ty σ H1 Q else tz σ H1 Q) := by
  refine ⟨fun pins s σ H Q I q => ?_⟩
  show wpAny (model X.prog X.w) X.A (isTrue t X.env (eval t X.env) >>= fun c => if c then isTrue y X.env (eval y X.env) else isTrue z X.env (eval z X.env)) _ _ s
  refine wpAny_bind (thn (h1.run pins s σ H _ I q) fun c s1 ⟨H1, I1, q1⟩ => ?_)
  cases c with
  | true => exact h2.run pins s1 σ H1 Q I1 q1
  | false => exact h3.run pins s1 σ H1 Q I1 q1
theorem pIfe {c a b : Xp} (hc : PX C c) (ha : PX C a) (hb : PX C b) : PX C (.ife c a b) := by
  have val : ∀ {X : Cx} {T : Tb} {G : Gh} {x : Expr}, Gd X C T → ck T .val (.ife c a b) x = true → PE X x (tE X.K G (ev C (.ife c a b))) := fun {X T G x} g h => by
    cases x <;> first | (cases h; done) | skip
    simp only [ck, Md.own, Bool.and_eq_true] at h
    obtain ⟨⟨h1, h2⟩, h3⟩ := h
    refine peImp (pe_ifExp (hc.test (G := G) g h1) (ha.val (G := G) g h2) (hb.val (G := G) g h3)) fun σ H Q q => ?_
    obtain ⟨e, d, m, hf, q⟩ := q
    obtain ⟨dc, h4, h5⟩ := Rs.bind_eq_ok (show (ev C c e).bind _ = .ok d by simpa only [ev] using hf)
    obtain ⟨k, h6, h7⟩ := Rs.bind_eq_ok h5
    refine ⟨e, k, m, bindOk h4 h6, fun H1 s => ?_⟩
    cases k with
    | true => exact ⟨e, d, m.up s, h7, fun v H' s' r => q v H' (s.trans s') r⟩
    | false => exact ⟨e, d, m.up s, h7, fun v H' s' r => q v H' (s.trans s') r⟩
  refine ⟨val, fun {X T G x} g h => peImp (val (T := T) g (by cases x <;> exact h)) fun _ _ _ => tB_tE, fun {X T G x} g h => ?_⟩
  cases x <;> first | (cases h; done) | skip
  simp only [ck, Md.own, Bool.and_eq_true] at h
  obtain ⟨⟨h1, h2⟩, h3⟩ := h
  refine ptImp (pt_ifE (hc.test (G := G) g h1) (ha.test (G := G) g h2) (hb.test (G := G) g h3)) fun σ H Q q => ?_
  obtain ⟨e, b', m, hf, q⟩ := q
  obtain ⟨d, h8, h9⟩ := Rs.bind_eq_ok hf
  obtain ⟨dc, h4, h5⟩ := Rs.bind_eq_ok (show (ev C c e).bind _ = .ok d by simpa only [ev] using h8)
  obtain ⟨k, h6, h7⟩ := Rs.bind_eq_ok h5
  refine ⟨e, k, m, bindOk h4 h6, fun H1 s => ?_⟩
  cases k with
  | true => exact ⟨e, b', m.up s, bindOk (show ev C a e = .ok d from h7) h9, fun H' s' => q H' (s.trans s')⟩
  | false => exact ⟨e, b', m.up s, bindOk (show ev C b e = .ok d from h7) h9, fun H' s' => q H' (s.trans s')⟩

/-! ### rows of expressions -/
theorem psNil : PXs C .nil := by
  refine ⟨fun {X T G xs} g h _ => ?_, fun {X T G xs} g h _ => ?_, fun {X T G xs op pos} g h hn => ?_, fun {X T G xs op pos} g h hn => ?_, fun {X T G xs} g h => ?_, fun {X T ks kes xs pos} g hk hl h => ?_⟩
  rotate_right
  · cases xs with
    | cons _ _ => simp [ckl] at h
    | nil =>
      cases kes with
      | cons _ _ => cases hl
      | nil =>
        cases ks with
        | cons _ _ => simp [ckk] at hk
        | nil => exact pps_nil
  · cases xs with
    | cons _ _ => simp [ckl] at h
    | nil =>
      refine paImp pa_nil fun σ H Q q => ?_
      obtain ⟨e, d, m, hf, q⟩ := q
      simp only [evs, Rs.ok.injEq] at hf
      subst hf
      exact q [] H (Same.refl H) .nil
  · cases xs with
    | cons _ _ => simp [ckl] at h
    | nil =>
      refine paImp pa_nil fun σ H Q q => ?_
      obtain ⟨e, d, m, hf, q⟩ := q
      simp only [evs, Rs.ok.injEq] at hf
      subst hf
      exact q [] H (Same.refl H) .nil
  · cases xs with
    | cons _ _ => simp [ckl] at h
    | nil => exact absurd rfl hn
  · cases xs with
    | cons _ _ => simp [ckl] at h
    | nil => exact absurd rfl hn
  · cases xs with
    | cons _ _ => simp [ckc] at h
    | nil =>
      refine ⟨fun pins s σ H Q I q => pts_nil.run pins s σ H Q I ?_⟩
      obtain ⟨e, d, m, hf, q⟩ := q
      simp only [evc, Rs.ok.injEq] at hf
      subst hf
      exact q H (Same.refl H)
theorem evb_cons {op : BoolOp} {a b : Xp} {r : Xps} {e : Vn} : evb C op (.cons a (.cons b r)) e = (ev C a e).bind fun x => (tru x).bind fun k => if k == andB op then evb C op (.cons b r) e else .ok x := by
  simp only [evb]
theorem psCons {a : Xp} {r : Xps} (ha : PX C a) (hr : PXs C r) : PXs C (.cons a r) := by
  refine ⟨fun {X T G xs} g h hs => ?_, fun {X T G xs} g h hs => ?_, fun {X T G xs op pos} g h hn => ?_, fun {X T G xs op pos} g h hn => ?_, fun {X T G xs} g h => ?_, fun {X T ks kes xs pos} g hk hl h => ?_⟩
  rotate_right
  · cases xs with
    | nil => simp [ckl] at h
    | cons x xs =>
      cases kes with
      | nil => cases hl
      | cons ke kes =>
        cases ks with
        | nil => simp [ckk] at hk
        | cons k ks =>
          simp only [ckk, Bool.and_eq_true] at hk
          simp only [ckl, Bool.and_eq_true] at h
          have hr' := hr.pps (pos := pos) g hk.2 (by simpa using hl) h.2
          have ha' : PE X x (eE X.K (ev C a)) := peG fun G => ha.val (G := G) g h.1
          obtain ⟨hk1, _⟩ := hk
          split at hk1
          · simp only [decide_eq_true_eq] at hk1
            subst hk1
            exact pps_cons pe_str ha' hr'
          · simp only [decide_eq_true_eq] at hk1
            subst hk1
            exact pps_cons pe_int ha' hr'
          · cases hk1
  · cases xs with
    | nil => simp [ckl] at h
    | cons x xs =>
      simp only [ckl, Bool.and_eq_true] at h
      simp only [List.all_cons, Bool.and_eq_true] at hs
      refine paImp (pa_cons (ha.val (G := G) g h.1) (hr.val (G := G) g h.2 hs.2) (star_cons hs.1)) fun σ H Q q => ?_
      obtain ⟨e, ds, m, hf, q⟩ := q
      obtain ⟨d, h1, h2⟩ := Rs.bind_eq_ok (show (ev C a e).bind _ = .ok ds by simpa only [evs] using hf)
      obtain ⟨es, h3, h4⟩ := Rs.bind_eq_ok h2
      cases h4
      exact ⟨e, d, m, h1, fun v H1 s1 r1 => ⟨e, es, m.up s1, h3, fun vs H2 s2 r2 => q _ H2 (s1.trans s2) (.cons (r1.up (fz_up s2)) r2)⟩⟩
  · cases xs with
    | nil => simp [ckl] at h
    | cons x xs =>
      simp only [ckl, Bool.and_eq_true] at h
      simp only [List.all_cons, Bool.and_eq_true] at hs
      refine paImp (pa_cons (ha.lent (G := G) g h.1) (hr.lent (G := G) g h.2 hs.2) (star_cons hs.1)) fun σ H Q q => ?_
      obtain ⟨e, ds, m, hf, q⟩ := q
      obtain ⟨d, h1, h2⟩ := Rs.bind_eq_ok (show (ev C a e).bind _ = .ok ds by simpa only [evs] using hf)
      obtain ⟨es, h3, h4⟩ := Rs.bind_eq_ok h2
      cases h4
      exact ⟨e, d, m, h1, fun v H1 s1 r1 => ⟨e, es, m.up s1, h3, fun vs H2 s2 r2 => q _ H2 (s1.trans s2) (.cons (r1.up s2) r2)⟩⟩
  · cases xs with
    | nil => simp [ckl] at h
    | cons x xs =>
      simp only [ckl, Bool.and_eq_true] at h
      cases r with
      | nil =>
        cases xs with
        | cons _ _ => simp [ckl] at h
        | nil => exact peImp (pe_one (ha.val (G := G) g h.1)) fun σ H Q q => by simpa only [evb] using q
      | cons b r =>
        cases xs with
        | nil => simp [ckl] at h
        | cons y ys =>
          have ih := hr.bo (G := G) (op := op) (pos := pos) g h.2 (by simp)
          cases op with
          | And =>
            refine peImp (pe_andT (ha.val (G := G) g h.1) ih) fun σ H Q q => ?_
            obtain ⟨e, d, m, hf, q⟩ := q
            rw [evb_cons] at hf
            obtain ⟨dx, h1, h2⟩ := Rs.bind_eq_ok hf
            obtain ⟨k, h3, h4⟩ := Rs.bind_eq_ok h2
            refine ⟨e, dx, m, h1, fun v H1 s1 r1 => ⟨k, tru_V (m.up s1) (.inl r1) h3, ?_⟩⟩
            cases k with
            | true => exact ⟨e, d, m.up s1, h4, fun v' H' s' r' => q v' H' (s1.trans s') r'⟩
            | false =>
              cases h4
              exact q v H1 s1 r1
          | Or =>
            refine peImp (pe_orT (ha.val (G := G) g h.1) ih) fun σ H Q q => ?_
            obtain ⟨e, d, m, hf, q⟩ := q
            rw [evb_cons] at hf
            obtain ⟨dx, h1, h2⟩ := Rs.bind_eq_ok hf
            obtain ⟨k, h3, h4⟩ := Rs.bind_eq_ok h2
            refine ⟨e, dx, m, h1, fun v H1 s1 r1 => ⟨k, tru_V (m.up s1) (.inl r1) h3, ?_⟩⟩
            cases k with
            | false => exact ⟨e, d, m.up s1, h4, fun v' H' s' r' => q v' H' (s1.trans s') r'⟩
            | true =>
              cases h4
              exact q v H1 s1 r1
  · cases xs with
    | nil => simp [ckl] at h
    | cons x xs =>
      simp only [ckl, Bool.and_eq_true] at h
      cases r with
      | nil =>
        cases xs with
        | cons _ _ => simp [ckl] at h
        | nil =>
          cases op with
          | And => exact pwImp (pw_and1 (ha.test (G := G) g h.1)) fun σ H Q q => by simpa only [evb] using q
          | Or => exact pwImp (pw_or1 (ha.test (G := G) g h.1)) fun σ H Q q => by simpa only [evb] using q
      | cons b r =>
        cases xs with
        | nil => simp [ckl] at h
        | cons y ys =>
          have ih := hr.boT (G := G) (op := op) (pos := pos) g h.2 (by simp)
          cases op with
          | And =>
            refine pwImp (pw_and (ha.test (G := G) g h.1) ih) fun σ H Q q => ?_
            obtain ⟨e, b', m, hf, q⟩ := q
            obtain ⟨d, h0, h5⟩ := Rs.bind_eq_ok hf
            rw [evb_cons] at h0
            obtain ⟨dx, h1, h2⟩ := Rs.bind_eq_ok h0
            obtain ⟨k, h3, h4⟩ := Rs.bind_eq_ok h2
            refine ⟨e, k, m, bindOk h1 h3, fun H1 s1 => ?_⟩
            cases k with
            | true => exact ⟨e, b', m.up s1, bindOk (show evb C .And (.cons b r) e = .ok d from h4) h5, fun H' s' => q H' (s1.trans s')⟩
            | false =>
              cases h4
              rw [h3] at h5
              cases h5
              exact q H1 s1
          | Or =>
            refine pwImp (pw_or (ha.test (G := G) g h.1) ih) fun σ H Q q => ?_
            obtain ⟨e, b', m, hf, q⟩ := q
            obtain ⟨d, h0, h5⟩ := Rs.bind_eq_ok hf
            rw [evb_cons] at h0
            obtain ⟨dx, h1, h2⟩ := Rs.bind_eq_ok h0
            obtain ⟨k, h3, h4⟩ := Rs.bind_eq_ok h2
            refine ⟨e, k, m, bindOk h1 h3, fun H1 s1 => ?_⟩
            cases k with
            | false => exact ⟨e, b', m.up s1, bindOk (show evb C .Or (.cons b r) e = .ok d from h4) h5, fun H' s' => q H' (s1.trans s')⟩
            | true =>
              cases h4
              rw [h3] at h5
              cases h5
              exact q H1 s1
  · cases r with
    | cons _ _ => cases xs <;> simp [ckc] at h
    | nil =>
      cases xs with
      | nil => simp [ckc] at h
      | cons x xs =>
        cases xs with
        | cons _ _ => simp [ckc] at h
        | nil =>
          simp only [ckc] at h
          refine ⟨fun pins s σ H Q I q => (pts_one (ha.test (G := G) g h)).run pins s σ H Q I ?_⟩
          simpa only [evc] using q
theorem pBo {as : Xps} (op : BoolOp) (h : PXs C as) : PX C (.bo op as) := by
  have ne : ∀ {T : Tb} {m : Md} {xs : List Expr} {e : Vn} {d : D}, ckl T m as xs = true → evb C op as e = .ok d → xs ≠ [] := fun {T m xs e d} h1 h2 hx => by
    subst hx
    cases as with
    | nil => simp [evb] at h2
    | cons _ _ => simp [ckl] at h1
  have val : ∀ {X : Cx} {T : Tb} {G : Gh} {x : Expr}, Gd X C T → ck T .val (.bo op as) x = true → PE X x (tE X.K G (ev C (.bo op as))) := fun {X T G x} g q => by
    cases x <;> first | (cases q; done) | skip
    simp only [ck, Md.own, Bool.and_eq_true, decide_eq_true_eq] at q
    obtain ⟨rfl, q⟩ := q
    refine ⟨fun pins s σ H Q I w => ?_⟩
    obtain ⟨e, d, m, hf, w'⟩ := id w
    exact (h.bo (G := G) g q (ne q (by simpa only [ev] using hf))).run pins s σ H Q I (by simpa only [ev] using w)
  refine ⟨val, fun {X T G x} g q => peImp (val (T := T) g (by cases x <;> exact q)) fun _ _ _ => tB_tE, fun {X T G x} g q => ?_⟩
  cases x <;> first | (cases q; done) | skip
  simp only [ck, Md.own, Bool.and_eq_true, decide_eq_true_eq] at q
  obtain ⟨rfl, q⟩ := q
  refine ⟨fun pins s σ H Q I w => ?_⟩
  obtain ⟨e, b, m, hf, w'⟩ := id w
  obtain ⟨d, h1, _⟩ := Rs.bind_eq_ok hf
  exact (h.boT (G := G) g q (ne q (by simpa only [ev] using h1))).pt.run pins s σ H Q I (by simpa only [ev] using w)
theorem allSt : ∀ {as : Xps} {xs : List Expr} {m : Md}, ckl T m as xs = true → True := fun _ => trivial
end
end Bk
/-! E8: displays, slices, calls, things walked, comprehensions; the theorem for all expressions. -/
namespace Bk
open PySem PySem.Spec PyProof.Rows L2
section
variable {X : Cx} {C : Cn} {T : Tb} {G : Gh}
/-! ### displays -/
theorem pTup {as : Xps} (h : PXs C as) (hs : ∀ {T : Tb} {xs : List Expr}, ckl T .val as xs = true → xs.all notStar = true) : PX C (.tup as) := lift (fun {X T G x} g q => by
    cases x <;> first | (cases q; done) | skip
    rename_i ys k pos
    simp only [ck, Bool.and_eq_true, decide_eq_true_eq] at q
    refine peImp (pe_tup (h.val (G := G) g q.2 (hs q.2))) fun σ H Q w => ?_
    obtain ⟨e, d, m, hf, w⟩ := w
    obtain ⟨ds, h1, h2⟩ := Rs.bind_eq_ok (show (evs C as e).bind _ = .ok d by simpa only [ev] using hf)
    cases h2
    refine ⟨e, ds, m, h1, fun vs H1 s1 r1 => ⟨?_, fun p hp => w _ _ (s1.trans (same_new hp)) (new_tup (m.up s1) hp r1)⟩⟩
    rw [sl16, r1.len, evs_len q.2 h1]
    omega) (fun _ x => by cases x <;> rfl) (fun _ x => by cases x <;> rfl) fun _ x h => by cases x <;> first | rfl | cases h
theorem lstO {as : Xps} (h : PXs C as) (hs : ∀ {T : Tb} {xs : List Expr}, ckl T .val as xs = true → xs.all notStar = true) {x : Expr} (g : Gd X C T) (q : ck T .val (.lst as) x = true) : PE X x (tO X.K G (ev C (.lst as))) := by
  cases x <;> first | (cases q; done) | skip
  rename_i ys pos
  simp only [ck, Bool.and_eq_true, decide_eq_true_eq] at q
  refine peImp (pe_lst (h.val (G := G) g q.2 (hs q.2))) fun σ H Q w => ?_
  obtain ⟨e, d, m, hf, w⟩ := w
  obtain ⟨ds, h1, h2⟩ := Rs.bind_eq_ok (show (evs C as e).bind _ = .ok d by simpa only [ev] using hf)
  cases h2
  refine ⟨e, ds, m, h1, fun vs H1 s1 r1 => ⟨?_, fun p hp => w _ _ (s1.trans (same_new hp)) (s1.free hp) (top_lst hp r1)⟩⟩
  rw [sl16, r1.len, evs_len q.2 h1]
  omega
theorem pLst {as : Xps} (h : PXs C as) (hs : ∀ {T : Tb} {xs : List Expr}, ckl T .val as xs = true → xs.all notStar = true) : PX C (.lst as) := lift (fun {X T G x} g q => peImp (lstO h hs g q) fun _ _ _ => tO_tE fun e d z => by
    obtain ⟨xs, _, z2⟩ := Rs.bind_eq_ok (show (evs C as e).bind _ = .ok d by simpa only [ev] using z)
    cases z2
    rfl)
  (fun _ x => by cases x <;> rfl) (fun _ x => by cases x <;> rfl) fun _ x h => by cases x <;> first | rfl | cases h

/-! ### slices -/
theorem poNo : PXo C .no := ⟨fun {X T G x} g q => by
  cases x with
  | some _ => simp [cko] at q
  | none =>
    refine ⟨fun pins s σ H Q I w => po_none.run pins s σ H Q I ?_⟩
    obtain ⟨e, o, m, hf, w⟩ := w
    simp only [evo, Rs.ok.injEq] at hf
    subst hf
    exact w H (Same.refl H)⟩
theorem poSo {a : Xp} (ha : PX C a) : PXo C (.so a) := ⟨fun {X T G x} g q => by
  cases x with
  | none => simp [cko] at q
  | some x =>
    simp only [cko] at q
    refine ⟨fun pins s σ H Q I w => (po_some (ha.lent (G := G) g q)).run pins s σ H Q I ?_⟩
    obtain ⟨e, o, m, hf, w⟩ := w
    obtain ⟨d, h1, h2⟩ := Rs.bind_eq_ok (show (ev C a e).bind _ = .ok o by simpa only [evo] using hf)
    obtain ⟨i, h3, h4⟩ := Rs.bind_eq_ok h2
    cases h4
    cases asInt_of h3
    exact ⟨e, _, m, h1, fun v H1 s1 r1 => ⟨i, r1.int (m.up s1), w H1 s1⟩⟩⟩
theorem pSl {a : Xp} {lo hi : Xo} (ha : PX C a) (hl : PXo C lo) (hh : PXo C hi) : PX C (.sl a lo hi) := lift (fun {X T G x} g q => by
    cases x <;> first | (cases q; done) | skip
    rename_i l r pos
    cases r <;> first | (cases q; done) | skip
    rename_i l2 h2 st p2
    cases st with
    | some _ => cases q
    | none =>
      simp only [ck, Bool.and_eq_true] at q
      refine peImp (pe_slice sl_all (ha.lent (G := G) g q.1.1) (hl.part (G := G) g q.1.2) (hh.part (G := G) g q.2)) fun σ H Q w => ?_
      obtain ⟨e, d, m, hf, w⟩ := w
      obtain ⟨dx, h1, h2⟩ := Rs.bind_eq_ok (show (ev C a e).bind _ = .ok d by simpa only [ev] using hf)
      obtain ⟨l, h3, h4⟩ := Rs.bind_eq_ok h2
      obtain ⟨h, h5, h6⟩ := Rs.bind_eq_ok h4
      exact ⟨e, dx, m, h1, fun v H1 s1 r1 => ⟨e, l, m.up s1, h3, fun H2 s2 => ⟨e, h, m.up (s1.trans s2), h5, fun H3 s3 =>
        ok_sl (m.up ((s1.trans s2).trans s3)) (r1.up (s2.trans s3)) h6 fun v' H' s' r' => w v' H' (((s1.trans s2).trans s3).trans s') r'⟩⟩⟩) (fun _ x => by cases x <;> rfl) (fun _ x => by cases x <;> rfl) fun _ x h => by cases x <;> first | rfl | cases h

/-! ### built-ins, defs -/
theorem peBi (hc : X.calm = true) (hun : X.A.units + 64 < cLine) (f : Bi) {x : Str} {e : Expr} {es : List Expr} {t : TA} {p pos : Pos} (hx : x = biName f) (hg : Gl X x) (hm : X.mg x = none) (ha : PA X (e :: es) t)
    (he : starEach (e :: es) X.env = (false, eval e X.env) :: starEach es X.env) (hpl : (backTo pos (starEach es X.env)).any (·.1) = false) : PE X (.Call (.Name x p) (e :: es) [] pos) (tCB (rBi X.K f) t) := by
  subst hx
  have hcr := cr_bi hc hun f
  have hb := boot_bi f
  cases f with
  | len => exact pe_callB hcr hg hm hb ha (by decide) (by decide) he hpl
  | list => exact pe_callTy hcr hg hm hb ha (by decide) (by decide) he hpl
  | tuple => exact pe_callTy hcr hg hm hb ha (by decide) (by decide) he hpl
  | int => exact pe_callTy hcr hg hm hb ha (by decide) (by decide) he hpl
  | str => exact pe_callTy hcr hg hm hb ha (by decide) (by decide) he hpl
  | bool => exact pe_callTy hcr hg hm hb ha (by decide) (by decide) he hpl
  | max2 => exact pe_callB hcr hg hm hb ha (by decide) (by decide) he hpl
  | min2 => exact pe_callB hcr hg hm hb ha (by decide) (by decide) he hpl
  | max => exact pe_callB hcr hg hm hb ha (by decide) (by decide) he hpl
  | min => exact pe_callB hcr hg hm hb ha (by decide) (by decide) he hpl
  | sum => exact pe_callB hcr hg hm hb ha (by decide) (by decide) he hpl
theorem bi_blt : ∀ f : Bi, biName f ∈ blts := by intro f; cases f <;> decide
theorem biKey {as : Xps} {f : Bi} {x : Expr} {m : Md} (q : ck T m (.bi f as) x = true) : ∃ n p y ys pos, x = .Call (.Name n p) (y :: ys) [] pos ∧ n = biName f ∧ glB T.sc n = true ∧ ckl T .lent as (y :: ys) = true ∧ (y :: ys).all notStar = true := by
  cases x <;> first | (cases q; done) | skip
  rename_i fn ys kw pos
  cases fn <;> first | (cases q; done) | skip
  cases kw with
  | cons _ _ => cases q
  | nil =>
    simp only [ck, Bool.and_eq_true, decide_eq_true_eq] at q
    obtain ⟨⟨⟨⟨h1, h2⟩, h3⟩, h4⟩, h5⟩ := q
    cases ys with
    | nil => cases h5
    | cons y ys => exact ⟨_, _, y, ys, _, rfl, h1, h2, h3, h4⟩
theorem biPE {as : Xps} (f : Bi) (h : PXs C as) {x : Expr} {m : Md} (g : Gd X C T) (q : ck T m (.bi f as) x = true) : PE X x (tCB (rBi X.K f) (tAB X.K G (evs C as))) := by
  obtain ⟨n, p, y, ys, pos, rfl, h1, h2, h3, h4⟩ := biKey q
  have h5 : notStar y = true ∧ ys.all notStar = true := by simpa only [List.all_cons, Bool.and_eq_true] using h4
  exact peBi g.calm g.un f h1 (glOf g h2).1 (g.bl n (by rw [h1]; exact bi_blt f)) (h.lent (G := G) g h3 h4) (star_cons h5.1) (star_all h5.2)
theorem pBi {as : Xps} (f : Bi) (h : PXs C as) : PX C (.bi f as) := lift (fun {X T G x} g q => by
    refine peImp (biPE f h (G := G) g q) fun σ H Q w => ?_
    obtain ⟨e, d, m, hf, w⟩ := w
    obtain ⟨ds, h1, h2⟩ := Rs.bind_eq_ok (show (evs C as e).bind _ = .ok d by simpa only [ev] using hf)
    exact ⟨e, ds, m, h1, fun vs H1 s1 r1 => ok_bi f (m.up s1) r1 h2 fun v H' s' r' => w v H' (s1.trans s') r'⟩)
  (fun _ x => by cases x <;> rfl) (fun _ x => by cases x <;> rfl) fun _ x h => by cases x <;> first | rfl | cases h
theorem listO {as : Xps} (h : PXs C as) {x : Expr} (g : Gd X C T) (q : ck T .val (.bi .list as) x = true) : PE X x (tO X.K G (ev C (.bi .list as))) := by
  refine peImp (biPE .list h (G := G) g q) fun σ H Q w => ?_
  obtain ⟨e, d, m, hf, w⟩ := w
  obtain ⟨ds, h1, h2⟩ := Rs.bind_eq_ok (show (evs C as e).bind _ = .ok d by simpa only [ev] using hf)
  refine ⟨e, ds, m, h1, fun vs H1 s1 r1 => ?_⟩
  have m1 := m.up s1
  cases ds with
  | nil => cases h2
  | cons d1 ds =>
    cases ds with
    | cons _ _ => cases d1 <;> cases h2
    | nil =>
      obtain ⟨v, rfl, rv⟩ := rba1 r1
      cases d1 <;> first | (cases h2; done) | skip
      · cases h2
        obtain ⟨a, xs, rfl, h3, h4⟩ := rv.list m1
        exact ⟨a, xs, rfl, .inl h3, fun p hp => w _ _ (s1.trans (same_new hp)) (s1.free hp) (top_lst hp h4)⟩
      · cases h2
        obtain ⟨a, xs, rfl, h3, h4⟩ := rv.tup m1
        exact ⟨a, xs, rfl, .inr h3, fun p hp => w _ _ (s1.trans (same_new hp)) (s1.free hp) (top_lst hp h4)⟩
theorem pIsn {a : Xp} (t : Ty) (ha : PX C a) : PX C (.isn a t) := lift (fun {X T G x} g q => by
    cases x <;> first | (cases q; done) | skip
    rename_i fn ys kw pos
    cases fn <;> first | (cases q; done) | skip
    rename_i n p
    cases kw with
    | cons _ _ => cases ys with
      | nil => cases q
      | cons _ ys => cases ys with
        | nil => cases q
        | cons z ys => cases z <;> first | (cases q; done) | (cases ys <;> cases q)
    | nil =>
      cases ys with
      | nil => cases q
      | cons y ys =>
        cases ys with
        | nil => cases q
        | cons z ys =>
          cases z <;> first | (cases q; done) | skip
          rename_i n2 p2
          cases ys with
          | cons _ _ => cases q
          | nil =>
            simp only [ck, Bool.and_eq_true, decide_eq_true_eq] at q
            obtain ⟨⟨⟨⟨⟨rfl, h2⟩, h3⟩, h4⟩, rfl⟩, h6⟩ := q
            have hty : tyName t ∈ blts := by cases t <;> decide
            have hb : PE X (.Name (tyName t) p2) (tC (.ty (tyStr t))) := pe_bltn (glOf g h6).1 (g.bl _ hty) (boot_ty t) rfl (by cases t <;> decide) (by cases t <;> decide)
            refine peImp (pe_callB call_isi (glOf g h2).1 (g.bl _ (by decide)) boot_isi (pa_cons (ha.lent (G := G) g h3) (pa_cons hb pa_nil (star_cons rfl)) (star_cons h4)) (by decide) (by decide) (star_cons h4) (star_all rfl)) fun σ H Q w => ?_
            obtain ⟨e, d, m, hf, w⟩ := w
            obtain ⟨dx, h1, h2⟩ := Rs.bind_eq_ok (show (ev C a e).bind _ = .ok d by simpa only [ev] using hf)
            split at h2
            · rename_i hd
              cases h2
              exact ⟨e, dx, m, h1, fun v H1 s1 r1 => ⟨v, .ty (tyStr t), _, _, _, rfl, .ty _, rp_tyX (r1.now (m.up s1) hd) hd, isn_kit dx t, w _ H1 s1 (.bl _)⟩⟩
            · cases h2) (fun _ x => by cases x <;> rfl) (fun _ x => by cases x <;> rfl) fun _ x h => by cases x <;> first | rfl | cases h
theorem pCall {as : Xps} (j : Nat) (h : PXs C as) : PX C (.call j as) := lift (fun {X T G x} g q => by
    cases x <;> first | (cases q; done) | skip
    rename_i fn ys kw pos
    cases fn <;> first | (cases q; done) | skip
    rename_i n p
    cases kw with
    | cons _ _ => cases q
    | nil =>
      simp only [ck, Bool.and_eq_true, decide_eq_true_eq] at q
      obtain ⟨⟨⟨h2, h3⟩, h4⟩, h5⟩ := q
      obtain ⟨k, fa, fd, ps, k1, k2, k3, k4, k5⟩ := (g.fn j n ys.length h3).ex
      have fin : ∀ {σ H Q}, tE X.K G (ev C (.call j as)) σ H Q → tCall (spD X.K ys.length (C.fn j)) [] E0 (tA X.K G (evs C as)) σ H Q := fun {σ H Q} w => by
        obtain ⟨e, d, m, hf, w⟩ := w
        obtain ⟨ds, h6, h7⟩ := Rs.bind_eq_ok (show (evs C as e).bind _ = .ok d by simpa only [ev] using hf)
        refine ⟨e, ds, m, h6, fun vs H1 s1 r1 => ⟨by rw [List.append_nil, r1.len, evs_len h4 h6], (m.up s1).tab, fun b => G.ban b ∨ Own e σ b, ds, d, fun b hb => ?_, by rw [List.append_nil]; exact r1, h7, fun v H' s' r' => w v H' (s1.trans s') r'⟩⟩
        exact hb.elim ((m.up s1).ban b) fun z => (m.up s1).ownThere z
      cases ys with
      | nil =>
        refine ⟨fun pins s σ H Q I w => (pe_call0 k3 (k4.mono (Nat.le_add_right k _)) (glOf g h2).1 k1 k2 k5 .nil pass0 (glOf g h2).2).run pins s σ H Q I ?_⟩
        obtain ⟨e, ds, m, h6, z⟩ := fin w
        have e0 := evs_len h4 h6
        cases ds with
        | cons _ _ => cases e0
        | nil => exact z [] H (Same.refl H) .nil
      | cons y ys =>
        simp only [List.all_cons, Bool.and_eq_true] at h5
        exact peImp (pe_call k3 (k4.mono (Nat.le_add_right k _)) (glOf g h2).1 k1 k2 k5 .nil pass0 (h.val (G := G) g h4 (by simp only [List.all_cons, Bool.and_eq_true]; exact h5)) (glOf g h2).2 (star_cons h5.1) (star_all h5.2)) fun σ H Q w => fin w)
  (fun _ x => by cases x <;> rfl) (fun _ x => by cases x <;> rfl) fun _ x h => by cases x <;> first | rfl | cases h

/-! ### things walked -/
theorem pwSq {a : Xp} (ha : PX C a) : PXw C (.sq a) := ⟨fun {X T G md tg x} g q hm => by
  have lentOne : ∀ b, (b = true → ck T .lent a x = true) → (b = false → ck T .val a x = true) → PI X tg x (tW X.K G b (evw C (.sq a))) := fun b hl hv => by
    cases b with
    | true =>
      refine piImp (piOr (pi_list (peBd (ha.lent (G := G) g (hl rfl)))) (pi_tup (peBd (ha.lent (G := G) g (hl rfl))))) fun σ H R w => ?_
      obtain ⟨e, ds, m, hf, w⟩ := w
      obtain ⟨d, h1, h2⟩ := Rs.bind_eq_ok (show (ev C a e).bind seqD = .ok ds by simpa only [evw] using hf)
      cases d <;> first | (cases h2; done) | skip
      · cases h2
        refine .inl ⟨e, _, m, h1, fun v H1 s1 r1 bd => ?_⟩
        obtain ⟨b, xs, rfl, h3, h4⟩ := r1.list (m.up s1)
        exact ⟨b, rfl, ⟨xs, h3⟩, w _ H1 s1 (wlk_list h3 h4 ((bd b rfl).1 xs h3))⟩
      · cases h2
        refine .inr ⟨e, _, m, h1, fun v H1 s1 r1 bd => ?_⟩
        obtain ⟨b, xs, rfl, h3, h4⟩ := r1.tup (m.up s1)
        exact ⟨b, rfl, ⟨xs, h3⟩, w _ H1 s1 (wlk_tup h3 h4 ((bd b rfl).2 xs h3))⟩
    | false =>
      refine piImp (piOr (pi_list (peBd (ha.val (G := G) g (hv rfl)))) (pi_tup (peBd (ha.val (G := G) g (hv rfl))))) fun σ H R w => ?_
      obtain ⟨e, ds, m, hf, w⟩ := w
      obtain ⟨d, h1, h2⟩ := Rs.bind_eq_ok (show (ev C a e).bind seqD = .ok ds by simpa only [evw] using hf)
      cases d <;> first | (cases h2; done) | skip
      · cases h2
        refine .inl ⟨e, _, m, h1, fun v H1 s1 r1 bd => ?_⟩
        obtain ⟨b, xs, rfl, _, _⟩ := Rb.list (m.up s1) (.inl r1)
        obtain ⟨xs, h3, h4⟩ := frozL r1
        have h5 := cutH_sub.seq h3
        exact ⟨b, rfl, ⟨xs, h5⟩, w _ H1 s1 (wlk_list h3 h4 ((bd b rfl).1 xs h5))⟩
      · cases h2
        refine .inr ⟨e, _, m, h1, fun v H1 s1 r1 bd => ?_⟩
        obtain ⟨b, xs, rfl, _, _⟩ := Rb.tup (m.up s1) (.inl r1)
        obtain ⟨xs, h3, h4⟩ := frozT r1
        have h5 := sameT cutH_sub h3
        exact ⟨b, rfl, ⟨xs, h5⟩, w _ H1 s1 (wlk_tup h3 h4 ((bd b rfl).2 xs h5))⟩
  cases md with
  | val => exact lentOne false (fun z => nomatch z) fun _ => q
  | lent => exact lentOne true (fun _ => q) fun z => nomatch z
  | test => exact absurd rfl hm⟩
theorem pwTx {a : Xp} (ha : PX C a) : PXw C (.tx a) := ⟨fun {X T G md tg x} g q hm => by
  have ql : PE X x (tB X.K G (ev C a)) := by
    cases md with
    | val => exact peImp (ha.val (G := G) g q) fun _ _ _ => tB_tE
    | lent => exact ha.lent g q
    | test => exact absurd rfl hm
  refine piImp (pi_str ql) fun σ H R w => ?_
  obtain ⟨e, ds, m, hf, w⟩ := w
  obtain ⟨d, h1, h2⟩ := Rs.bind_eq_ok (show (ev C a e).bind _ = .ok ds by simpa only [evw] using hf)
  cases d <;> first | (cases h2; done) | skip
  simp only at h2
  split at h2
  · rename_i hz
    cases h2
    exact ⟨e, _, m, h1, fun v H1 s1 r1 => ⟨_, r1.str (m.up s1), w _ H1 s1 (wlk_str hz)⟩⟩
  · cases h2⟩
theorem okR_of {i : Int} (h : okR i = true) : -16777216 ≤ i ∧ i ≤ 16777216 := by
  unfold okR at h
  simpa only [Bool.and_eq_true, decide_eq_true_eq] using h
theorem pwR1 {a : Xp} (ha : PX C a) : PXw C (.r1 a) := ⟨fun {X T G md tg x} g q hm => by
  cases x <;> first | (cases q; done) | skip
  rename_i fn ys kw pos
  cases fn <;> first | (cases q; done) | skip
  cases kw with
  | cons _ _ => cases ys with
    | nil => cases q
    | cons _ ys => cases ys <;> cases q
  | nil =>
    cases ys with
    | nil => cases q
    | cons y ys =>
      cases ys with
      | cons _ _ => cases q
      | nil =>
        simp only [ckw, Bool.and_eq_true, decide_eq_true_eq] at q
        obtain ⟨⟨⟨rfl, h2⟩, h3⟩, h4⟩ := q
        refine piImp (pi_range1 (glOf g h2).1 (g.bl _ (by decide)) (pa_cons (ha.lent (G := G) g h3) pa_nil (star_cons h4)) (star_cons h4)) fun σ H R w => ?_
        obtain ⟨e, ds, m, hf, w⟩ := w
        obtain ⟨d, h5, h6⟩ := Rs.bind_eq_ok (show (ev C a e).bind _ = .ok ds by simpa only [evw] using hf)
        obtain ⟨i, h7, h8⟩ := Rs.bind_eq_ok h6
        cases asInt_of h7
        split at h8
        · rename_i hz
          cases h8
          obtain ⟨z1, z2⟩ := okR_of hz
          exact ⟨e, _, m, h5, fun v H1 s1 r1 => ⟨i, by rw [r1.int (m.up s1)], by omega, by omega, w _ H1 s1 (wlk_rng (by omega))⟩⟩
        · cases h8⟩
theorem pwR2 {a b : Xp} (ha : PX C a) (hb : PX C b) : PXw C (.r2 a b) := ⟨fun {X T G md tg x} g q hm => by
  cases x <;> first | (cases q; done) | skip
  rename_i fn ys kw pos
  cases fn <;> first | (cases q; done) | skip
  cases kw with
  | cons _ _ => cases ys with
    | nil => cases q
    | cons _ ys => cases ys with
      | nil => cases q
      | cons _ ys => cases ys <;> cases q
  | nil =>
    cases ys with
    | nil => cases q
    | cons y ys =>
      cases ys with
      | nil => cases q
      | cons z ys =>
        cases ys with
        | cons _ _ => cases q
        | nil =>
          simp only [ckw, Bool.and_eq_true, decide_eq_true_eq] at q
          obtain ⟨⟨⟨⟨⟨rfl, h2⟩, h3⟩, h4⟩, k3⟩, k4⟩ := q
          refine piImp (pi_range2 (glOf g h2).1 (g.bl _ (by decide)) (pa_cons (ha.lent (G := G) g h3) (pa_cons (hb.lent (G := G) g k3) pa_nil (star_cons k4)) (star_cons h4)) (by rw [star_cons h4, star_cons k4]; rfl) (star_cons k4)) fun σ H R w => ?_
          obtain ⟨e, ds, m, hf, w⟩ := w
          obtain ⟨d, h5, h6⟩ := Rs.bind_eq_ok (show (ev C a e).bind _ = .ok ds by simpa only [evw] using hf)
          obtain ⟨d2, h9, h10⟩ := Rs.bind_eq_ok h6
          obtain ⟨i, h7, h8⟩ := Rs.bind_eq_ok h10
          obtain ⟨j, h11, h12⟩ := Rs.bind_eq_ok h8
          cases asInt_of h7
          cases asInt_of h11
          split at h12
          · rename_i hz
            cases h12
            simp only [Bool.and_eq_true] at hz
            obtain ⟨z1, z2⟩ := okR_of hz.1.1
            obtain ⟨z3, z4⟩ := okR_of hz.1.2
            obtain ⟨z5, z6⟩ := okR_of hz.2
            refine ⟨e, _, m, h5, fun v H1 s1 r1 => ⟨e, _, m.up s1, h9, fun v2 H2 s2 r2 => ⟨i, j, ?_, ⟨by omega, by omega, by omega, by omega⟩, w _ H2 (s1.trans s2) (wlk_rng (by omega))⟩⟩⟩
            rw [r1.int (m.up s1), r2.int (m.up (s1.trans s2))]
          · cases h12⟩
end
end Bk
/-! E9: comprehensions, and the theorem for all expressions. -/
namespace Bk
open PySem PySem.Spec PyProof.Rows L2
section
variable {K : Fg} {G : Gh} {e : Vn} {σ : Stt} {H H' : Hp}
/-- a list that grows at D, of which nobody else knows -/
def Gh.plus (G : Gh) (p : Addr) : Gh := ⟨fun b => G.ban b ∨ b = p, G.H0⟩
theorem Mt'.plus {p : Addr} (m : Mt' K G e σ H) (hn : H p = none) (s : Same H H') (hd : NT (H' p)) : Mt' K (G.plus p) e σ H' where
  len := m.len
  tab := m.tab.up s
  ext := m.ext.trans s
  ban := fun b h => h.elim (fun z => (m.ban b z).up s) fun z => by rw [z]; exact hd
  val := fun i d h => by
    obtain ⟨v, h1, h2⟩ := m.val i d h
    refine ⟨v, h1, h2.up (cutH_same (fun b h => ?_) s)⟩
    rcases h with (h | h) | h
    · exact .inl (.inl h)
    · exact .inr (by rw [h]; exact hn)
    · exact .inl (.inr h)
  own := fun i d h => by
    obtain ⟨a, h1, h2, h3, h4⟩ := m.own i d h
    refine ⟨a, h1, h2, fun z => z.elim h3 fun z => h4.there.1 (by rw [z]; exact hn), h4.up (s a) (cutH_same (fun b h => ?_) s)⟩
    rcases h with (h | h) | h
    · exact .inl (.inl h)
    · exact .inr (by rw [h]; exact hn)
    · exact .inl (.inr h)
  inj := m.inj
theorem gt_kil : ∀ (own : List Nat) (e : Vn) (j : Nat), (j ∈ own → j < e.length → gt (kil own e) j = none) ∧ (j ∉ own → gt (kil own e) j = gt e j)
  | [], e, j => ⟨fun h => (by cases h), fun _ => rfl⟩
  | i :: is, e, j => by
    rw [kil_cons]
    obtain ⟨h1, h2⟩ := gt_kil is (pt e i none) j
    refine ⟨fun h hl => ?_, fun h => ?_⟩
    · by_cases hj : j ∈ is
      · exact h1 hj (by rw [pt_length]; exact hl)
      · rw [h2 hj]
        rcases List.mem_cons.mp h with z | z
        · subst z
          exact gt_pt_same _ _ _ hl
        · exact absurd z hj
    · rw [h2 fun z => h (List.mem_cons_of_mem _ z), gt_pt_ne _ _ _ _ fun z => h (by rw [z]; exact List.mem_cons_self)]
theorem gt_lt {i : Nat} {s : Sl} (h : gt e i = some s) : i < e.length := by
  rw [gt_get] at h
  by_cases z : i < e.length
  · exact z
  · rw [List.getElem?_eq_none (by omega)] at h; cases h
theorem kil_some {own : List Nat} {j : Nat} {s : Sl} (h : gt (kil own e) j = some s) : j ∉ own ∧ gt e j = some s := by
  obtain ⟨h1, h2⟩ := gt_kil own e j
  have hl := gt_lt h
  rw [kil_length] at hl
  by_cases hj : j ∈ own
  · rw [h1 hj hl] at h; cases h
  · exact ⟨hj, by rw [← h2 hj]; exact h⟩
theorem wipe_at {own : List Nat} {j : Nat} (h : j ∉ own) : (wipe σ own)[j]? = σ[j]? := wipe_out h
/-- the block's own slots are forgotten -/
theorem Mt'.wipe' (m : Mt' K G e σ H) {own : List Nat} (ho : own.any (fun i => isOwn (gt e i)) = false) : Mt' K G (kil own e) (wipe σ own) H ∧ ∀ b, Own (kil own e) (wipe σ own) b ↔ Own e σ b := by
  have hOwn : ∀ b, Own (kil own e) (wipe σ own) b ↔ Own e σ b := fun b => by
    constructor
    · rintro ⟨j, d, h1, h2⟩
      obtain ⟨h3, h4⟩ := kil_some h1
      rw [wipe_at h3] at h2
      exact ⟨j, d, h4, h2⟩
    · rintro ⟨j, d, h1, h2⟩
      have hj : j ∉ own := fun z => by
        have := List.any_eq_false.mp ho j z
        rw [h1] at this
        exact this rfl
      exact ⟨j, d, by rw [(gt_kil own e j).2 hj]; exact h1, by rw [wipe_at hj]; exact h2⟩
  have hs : Same (Fz G e σ H) (Fz G (kil own e) (wipe σ own) H) := cutH_same (fun b h => .inl (h.imp id (hOwn b).mp)) (Same.refl H)
  refine ⟨⟨by rw [kil_length, wipe_length]; exact m.len, m.ext, m.ban, fun i d h => ?_, fun i d h => ?_, fun i j a d d' h1 h2 h3 h4 => ?_, m.tab⟩, hOwn⟩
  · obtain ⟨h1, h2⟩ := kil_some h
    obtain ⟨v, h3, h4⟩ := m.val i d h2
    exact ⟨v, by rw [wipe_at h1]; exact h3, h4.up hs⟩
  · obtain ⟨h1, h2⟩ := kil_some h
    obtain ⟨a, h3, h4, h5, h6⟩ := m.own i d h2
    exact ⟨a, by rw [wipe_at h1]; exact h3, h4, h5, h6.up (fun _ z => .inl z) hs⟩
  · obtain ⟨k1, k2⟩ := kil_some h1
    obtain ⟨k3, k4⟩ := kil_some h2
    rw [wipe_at k1] at h3
    rw [wipe_at k3] at h4
    exact m.inj i j a d d' k2 k4 h3 h4
theorem wipe_get : ∀ (own : List Nat) (σ : Stt) (j : Nat), j ∈ own → j < σ.length → (wipe σ own)[j]? = some none
  | [], _, _, h, _ => by cases h
  | i :: is, σ, j, h, hl => by
    unfold wipe
    by_cases hi : i = j
    · subst hi
      rw [List.getElem?_set_self (by rw [wipe_length]; exact hl)]
    · rw [List.getElem?_set_ne hi]
      rcases List.mem_cons.mp h with z | z
      · exact absurd z.symm hi
      · exact wipe_get is σ j z hl
theorem wipe_apart {own : List Nat} {σ' : Stt} (h : Apart own (wipe σ own) σ') : wipe σ' own = wipe σ own := by
  have hl : σ'.length = σ.length := by rw [h.1, wipe_length]
  apply List.ext_getElem?
  intro j
  by_cases hj : j ∈ own
  · by_cases hx : j < σ.length
    · rw [wipe_get own σ j hj hx, wipe_get own σ' j hj (by omega)]
    · rw [List.getElem?_eq_none (by rw [wipe_length]; omega), List.getElem?_eq_none (by rw [wipe_length]; omega)]
  · rw [wipe_at hj, h.2 j hj]
end
section
variable {X : Cx} {C : Cn} {T : Tb} {G : Gh}
theorem gdBlk (g : Gd X C T) (s : Shared) (H : Hp) (scope : Scope) (cl : List (Str × Addr)) (c : Addr) (fp : List Addr) : Gd (X.blk s H scope (compEnvC scope cl c X.env) fp) C { T with sc := relS scope T.sc } where
  N := g.N
  sc := by
    show relS scope X.env.scope = _
    rw [g.sc]
  nd := g.nd
  calm := g.calm
  bl := g.bl
  gl := g.gl
  fn := fun j f n h => ⟨(g.fn j f n h).ex⟩
  ns := g.ns
  un := g.un
  dp := g.dp
  cd := g.cd
theorem cutH_upd {p : Addr → Prop} {H : Hp} {a : Addr} {o : HO} (h : p a) : Same (cutH p H) (cutH p (upd H a o)) := fun b u z => by
  obtain ⟨h1, h2⟩ := cutH_some.mp z
  refine .inl (cutH_some.mpr ⟨h1, ?_⟩)
  rw [upd_ne (fun q => h1 (by rw [q]; exact h))]
  exact h2
theorem relKeep {scope sc : Scope} {y : Str} {k : NameKind} (hk : k ≠ .free) (h : scope.names.lookup y = some k) : (relS scope sc).names.lookup y = some k := lookup_relS_keep hk h
theorem mapR_cons {f : D → Rs (Option D)} {x : D} {xs ys : List D} (h : mapR f (x :: xs) = .ok ys) : ∃ o r, f x = .ok o ∧ mapR f xs = .ok r ∧ ys = (match o with
    | some y => y :: r
    | none => r) := by
  obtain ⟨o, h1, h2⟩ := Rs.bind_eq_ok (show (f x).bind _ = .ok ys from h)
  obtain ⟨r, h3, h4⟩ := Rs.bind_eq_ok h2
  cases h4
  exact ⟨o, r, h1, h3, rfl⟩
/-- a comprehension's reading -/
theorem lcRead {K : Fg} {w : Vn → Rs (List D)} {asn : D → Vn → Rs Vn} {cs : Vn → Rs Bool} {el : Vn → Rs D} {own : List Nat} {f : Vn → Rs D} (hA : ∀ d e e', asn d e = .ok e' → ∀ j, j ∉ own → gt e' j = gt e j) (hf : ∀ e d, f e = .ok d → own.any (fun i => isOwn (gt e i)) = false ∧ ∃ xs ys, w e = .ok xs ∧
    mapR (fun x => (asn x (kil own e)).bind fun e2 => (cs e2).bind fun k => if k then (el e2).bind fun y => .ok (some y) else .ok none) xs = .ok ys ∧ d = .list ys)
    {σ : Stt} {H : Hp} {Q : VK} (t : tO K G f σ H Q) : tLc (tW K G true w) (eG K own asn) (eQ K cs) (eE K el) own σ H Q := by
  obtain ⟨e, d, m, h0, q⟩ := t
  obtain ⟨ho, xs, ys, h1, h2, rfl⟩ := hf e d h0
  refine ⟨e, xs, m, h1, fun J H1 s1 wk p hp => ?_⟩
  have m1 := m.up s1
  obtain ⟨m0, hO⟩ := m1.wipe' ho
  have fin : ∀ {acc H2}, H2 p = some (.lst acc) → Same H1 H2 → RpA K (Fz (G.plus p) e σ H2) acc ys → Q (.ref p) H2 := fun {acc H2} a1 a2 a3 => by
    refine q p H2 (s1.trans a2) (s1.free hp) (.lst a1 (a3.up (cutH_same (fun b h => ?_) (Same.refl H2))))
    rcases h with h | h | h
    · exact .inl (.inl (.inl h))
    · exact .inl (.inr h)
    · exact .inl (.inl (.inr h))
  refine ⟨fun i k H2 => k = xs.length - i ∧ i ≤ xs.length ∧ ∃ acc done rest, H2 p = some (.lst acc) ∧ Same H1 H2 ∧ RpA K (Fz (G.plus p) e σ H2) acc done ∧ acc.length ≤ i ∧
    mapR (fun x => (asn x (kil own e)).bind fun e2 => (cs e2).bind fun k => if k then (el e2).bind fun y => .ok (some y) else .ok none) (xs.drop i) = .ok rest ∧ done ++ rest = ys, ⟨xs.length, rfl, Nat.zero_le _, [], [], ys, upd_same, same_new hp, .nil, Nat.le_refl _, h2, rfl⟩, ?_⟩
  rintro i k H2 ⟨rfl, hi, acc, done, rest, a1, a2, a3, a4, a5, a6⟩
  by_cases hlt : i < xs.length
  · refine .inr ⟨wk.goes i H2 hlt a2, fun H3 => ∃ acc done rest, H3 p = some (.lst acc) ∧ Same H1 H3 ∧ RpA K (Fz (G.plus p) e σ H3) acc done ∧ acc.length ≤ i + 1 ∧
      mapR (fun x => (asn x (kil own e)).bind fun e2 => (cs e2).bind fun k => if k then (el e2).bind fun y => .ok (some y) else .ok none) (xs.drop (i + 1)) = .ok rest ∧ done ++ rest = ys, fun H3 z => ⟨xs.length - (i + 1), by omega, rfl, hlt, z⟩, fun x H3 y => ?_⟩
    obtain ⟨s3, d, hd, hr⟩ := wk.yields i H2 x H3 hlt a2 y
    have e1 : xs.drop i = d :: xs.drop (i + 1) := by
      have := List.drop_eq_getElem_cons hlt
      rw [this]
      rw [List.getElem?_eq_getElem hlt] at hd
      cases hd
      rfl
    rw [e1] at a5
    obtain ⟨o, r, k1, k2, k3⟩ := mapR_cons a5
    obtain ⟨e2, k4, k5⟩ := Rs.bind_eq_ok k1
    obtain ⟨c, k6, k7⟩ := Rs.bind_eq_ok k5
    have d2 : NT (H2 p) := by rw [a1]; exact ⟨fun z => (nomatch z), fun _ z => (nomatch z)⟩
    have mP : Mt' K (G.plus p) (kil own e) (wipe σ own) H2 := m0.plus hp a2 d2
    have hO' : ∀ b, Own (kil own e) (wipe σ own) b → NT (H2 b) := fun b z => mP.ownThere z
    have hx : Rp K (Fz (G.plus p) (kil own e) (wipe σ own) H3) x d := hr _ (fun b z => z.elim (mP.ban b) (hO' b)) (cutH_same (fun b z => by
      rcases z with (z | z) | z
      · exact .inl (.inl z)
      · exact .inr (by rw [z]; exact hp)
      · exact .inl (.inr ((hO b).mp z))) a2)
    refine ⟨G.plus p, kil own e, d, e2, mP.up s3, hx, k4, fun σ2 m2 f2 ap => ⟨wipe_apart ap, G.plus p, e2, c, m2, k6, fun H4 s4 => ?_⟩⟩
    -- the list at p through the turn
    have keep : ∀ {H5}, Same H2 H5 → H5 p = some (.lst acc) := fun s => s.is a1 ntL
    have grow : ∀ {H5}, Same H2 H5 → RpA K (Fz (G.plus p) e σ H5) acc done := fun s => a3.up (fz_up s)
    cases c with
    | false =>
      simp only [Bool.false_eq_true, if_false, Rs.ok.injEq] at k7 ⊢
      subst k7
      subst k3
      have s := s3.trans s4
      exact ⟨acc, done, rest, keep s, a2.trans s, grow s, by omega, k2, a6⟩
    | true =>
      simp only [if_true] at k7 ⊢
      obtain ⟨dy, k8, k9⟩ := Rs.bind_eq_ok k7
      cases k9
      subst k3
      refine ⟨G.plus p, e2, dy, m2.up s4, k8, fun v H5 s5 r5 => ?_⟩
      have s := (s3.trans s4).trans s5
      have lim := wk.lim
      refine ⟨acc, keep s, by rw [sl16]; omega, acc ++ [v], done ++ [dy], r, upd_same, fun b u z => ?_, ?_, by rw [List.length_append]; simp; omega, k2, by rw [List.append_assoc]; exact a6⟩
      · rcases (a2.trans s) b u z with z2 | ⟨t, o', z2, t'⟩
        · exact .inl (by rw [upd_ne (ne_of_none z hp)]; exact z2)
        · exact .inr ⟨t, o', by rw [upd_ne (ne_of_none z hp)]; exact z2, t'⟩
      · have r5' : Rp K (Fz (G.plus p) e σ H5) v dy := r5.up (cutH_same (fun b z => by
          rcases z with z | z
          · exact .inl (.inl z)
          · -- what is owned outside is owned within
            obtain ⟨j, dj, q1, q2⟩ := (hO b).mpr z
            have nj := (kil_some q1).1
            exact .inl (.inr ⟨j, dj, by rw [hA _ _ _ k4 j nj]; exact q1, by rw [ap.2 j nj]; exact q2⟩)) (Same.refl H5))
        exact ((grow s).app (.cons r5' .nil)).up (cutH_upd (.inl (.inr rfl)))
  · have e1 : i = xs.length := by omega
    subst e1
    rw [List.drop_length] at a5
    cases a5
    rw [List.append_nil] at a6
    subst a6
    exact .inl ⟨wk.stops H2 a2, fin a1 a2 a3⟩
end
mutual
theorem asg_apart : ∀ (t : Tg) {T : Tb} {own : List Nat} {x : Expr} {d : D} {e e' : Vn}, ckg T own t x = true → asg t d e = .ok e' → ∀ j, j ∉ own → gt e' j = gt e j
  | .nm i, T, own, x, d, e, e', h, h2, j, hj => by
    cases x <;> first | (cases h; done) | skip
    simp only [ckg, Bool.and_eq_true, decide_eq_true_eq] at h
    simp only [asg, Rs.ok.injEq] at h2
    subst h2
    exact gt_pt_ne _ _ _ _ fun z => hj (by rw [← z]; exact List.contains_iff_mem.mp h.2)
  | .tp ts, T, own, x, d, e, e', h, h2, j, hj => by
    cases x <;> first | (cases h; done) | skip
    cases d <;> first | (simp [asg] at h2; done) | skip
    simp only [ckg] at h
    simp only [asg] at h2
    exact asgs_apart ts h h2 j hj
theorem asgs_apart : ∀ (ts : Tgs) {T : Tb} {own : List Nat} {xs : List Expr} {ds : List D} {e e' : Vn}, ckgs T own ts xs = true → asgs ts ds e = .ok e' → ∀ j, j ∉ own → gt e' j = gt e j
  | .nil, T, own, xs, ds, e, e', h, h2, j, hj => by
    cases ds with
    | cons _ _ => simp [asgs] at h2
    | nil =>
      simp only [asgs, Rs.ok.injEq] at h2
      subst h2
      rfl
  | .cons t ts, T, own, xs, ds, e, e', h, h2, j, hj => by
    cases xs with
    | nil => simp [ckgs] at h
    | cons x xs =>
      simp only [ckgs, Bool.and_eq_true] at h
      cases ds with
      | nil => simp [asgs] at h2
      | cons d ds =>
        obtain ⟨e1, h3, h4⟩ := Rs.bind_eq_ok (show (asg t d e).bind _ = .ok e' by simpa only [asgs] using h2)
        rw [asgs_apart ts h.2 h4 j hj, asg_apart t h.1.2 h3 j hj]
end
section
variable {X : Cx} {C : Cn} {T : Tb} {G : Gh}
theorem sGd {X : Cx} {C : Cn} {T : Tb} {own : List Nat} {t : Tg} {x : Expr} (g : Gd X C T) (s : Shared) (H : Hp) (scope : Scope) (cl : List (Str × Addr)) (c : Addr) (fp : List Addr) (h : ckg { T with sc := scope } own t x = true) {G : Gh} :
    PG (X.blk s H scope (compEnvC scope cl c X.env) fp) x (gT X.K G own (asg t)) := by
  refine sG t (T := { T with sc := scope }) (G := G) g.N g.nd g.calm (fun y hy => ?_) h
  have sc : (compEnvC scope cl c X.env).scope = relS scope X.env.scope := rfl
  unfold locB at hy
  show L2.Loc (compEnvC scope cl c X.env).scope y ∧ ((scope.names.lookup y == some .cell) = true ∨ (compEnvC scope cl c X.env).scope.names.lookup y = some .local)
  unfold L2.Loc
  rw [sc]
  have hy' : (match scope.names.lookup y with
    | some .local => true
    | some .cell => true
    | _ => false) = true := hy
  cases q : scope.names.lookup y with
  | none => rw [q] at hy'; cases hy'
  | some k =>
    rw [q] at hy'
    cases k with
    | «local» =>
      have z : (relS scope X.env.scope).names.lookup y = some .local := relKeep (by decide) q
      exact ⟨.inl z, .inr z⟩
    | cell =>
      have z : (relS scope X.env.scope).names.lookup y = some .cell := relKeep (by decide) q
      exact ⟨.inr z, .inl rfl⟩
    | _ => cases hy'
theorem lcO {el : Xp} {t : Tg} {w : Wk} {cs : Xps} {own : List Nat} (he : PX C el) (hw : PXw C w) (hc : PXs C cs) {x : Expr} (g : Gd X C T) (q : ck T .val (.lc el t w cs own) x = true) :
    ∃ y tg it ifs scope pos, x = .ListComp y [⟨tg, it, ifs, 0⟩] scope pos ∧ BlkOk X.N X.env.scope scope (own.map fun i => (T.N.getD i "", i)) ∧ (∀ {G : Gh}, PI X tg it (tW X.K G true (evw C w))) ∧
      (∀ (s : Shared) (H : Hp) (c : Addr) (cl : List (Str × Addr)) (fp : List Addr), PG (X.blk s H scope (compEnvC scope cl c X.env) fp) tg (eG X.K own (asg t))) ∧
      (∀ (s : Shared) (H : Hp) (c : Addr) (cl : List (Str × Addr)) (fp : List Addr), PTs (X.blk s H scope (compEnvC scope cl c X.env) fp) ifs (eQ X.K (evc C cs))) ∧
      (∀ (s : Shared) (H : Hp) (c : Addr) (cl : List (Str × Addr)) (fp : List Addr), PE (X.blk s H scope (compEnvC scope cl c X.env) fp) y (eE X.K (ev C el))) ∧ notSet it = true ∧ ∀ d e e', asg t d e = .ok e' → ∀ j, j ∉ own → gt e' j = gt e j := by
  cases x <;> first | (cases q; done) | skip
  rename_i y gs scope pos
  cases gs with
  | nil => cases q
  | cons c0 gs =>
    obtain ⟨tg, it, ifs, a⟩ := c0
    cases gs with
    | cons _ _ => cases q
    | nil =>
      simp only [ck, Bool.and_eq_true, decide_eq_true_eq] at q
      obtain ⟨⟨⟨⟨⟨⟨rfl, h1⟩, h2⟩, h3⟩, h4⟩, h5⟩, h6⟩ := q
      refine ⟨y, tg, it, ifs, scope, pos, rfl, blkOk_by (by rw [g.N, g.sc]; exact h1), fun {G} => hw.walk (G := G) g h2 (fun z => nomatch z), fun s H c cl fp => pgG fun G => sGd g s H scope cl c fp h4, fun s H c cl fp => ptsG fun G => hc.cs (G := G) (gdBlk g s H scope cl c fp) h5, fun s H c cl fp => peG fun G => he.val (G := G) (gdBlk g s H scope cl c fp) h6, h3, fun d e e' => asg_apart t h4⟩
theorem lcEv {el : Xp} {t : Tg} {w : Wk} {cs : Xps} {own : List Nat} (e : Vn) (d : D) (h : ev C (.lc el t w cs own) e = .ok d) : own.any (fun i => isOwn (gt e i)) = false ∧ ∃ xs ys, evw C w e = .ok xs ∧
    mapR (fun x => (asg t x (kil own e)).bind fun e2 => (evc C cs e2).bind fun k => if k then (ev C el e2).bind fun y => .ok (some y) else .ok none) xs = .ok ys ∧ d = .list ys := by
  simp only [ev] at h
  split at h
  · cases h
  · rename_i ho
    obtain ⟨xs, h1, h2⟩ := Rs.bind_eq_ok h
    obtain ⟨ys, h3, h4⟩ := Rs.bind_eq_ok h2
    cases h4
    exact ⟨by simpa using ho, xs, ys, h1, Rs.calm_eq_ok h3, rfl⟩
theorem ownMap (T : Tb) (own : List Nat) : (own.map fun i => (T.N.getD i "", i)).map (·.2) = own := by
  rw [List.map_map]
  exact List.map_id' own
theorem lcPE {el : Xp} {t : Tg} {w : Wk} {cs : Xps} {own : List Nat} (he : PX C el) (hw : PXw C w) (hc : PXs C cs) {x : Expr} (g : Gd X C T) (q : ck T .val (.lc el t w cs own) x = true) : PE X x (tO X.K G (ev C (.lc el t w cs own))) := by
  obtain ⟨y, tg, it, ifs, scope, pos, rfl, h1, h2, h3, h4, h5, h6, h7⟩ := lcO he hw hc g q
  refine peImp (pe_lc g.calm (by rw [g.N]; exact g.nd) (h2 (G := G)) h1 h3 h4 h5 (noSetF h6 X.env)) fun σ H Q w => ?_
  rw [ownMap]
  exact lcRead h7 lcEv w
theorem lc_nd {el : Xp} {t : Tg} {w : Wk} {cs : Xps} {own : List Nat} (e : Vn) (d : D) (z : ev C (.lc el t w cs own) e = .ok d) : nd d = true := by
  simp only [ev] at z
  split at z
  · cases z
  · obtain ⟨xs, _, z2⟩ := Rs.bind_eq_ok z
    obtain ⟨ys, _, z3⟩ := Rs.bind_eq_ok z2
    cases z3
    rfl
theorem pLc {el : Xp} {t : Tg} {w : Wk} {cs : Xps} {own : List Nat} (he : PX C el) (hw : PXw C w) (hc : PXs C cs) : PX C (.lc el t w cs own) := lift (fun {X T G x} g q => peImp (lcPE he hw hc g q) fun _ _ _ => tO_tE lc_nd)
  (fun _ x => by cases x <;> rfl) (fun _ x => by cases x <;> rfl) fun _ x h => by cases x <;> first | rfl | cases h
theorem pNo {a : Xp} (h : ∀ T m x, ck T m a x = false) : PX C a := ⟨fun g q => (by rw [h] at q; cases q), fun g q => (by rw [h] at q; cases q), fun g q => (by rw [h] at q; cases q)⟩
theorem pwNo {w : Wk} (h : ∀ T m tg x, ckw T m tg w x = false) : PXw C w := ⟨fun g q => (by rw [h] at q; cases q)⟩
theorem stars {m : Md} : ∀ {as : Xps} {T : Tb} {xs : List Expr}, ckl T m as xs = true → xs.all notStar = true
  | .nil, T, [], _ => rfl
  | .nil, T, _ :: _, h => by simp [ckl] at h
  | .cons _ _, T, [], h => by simp [ckl] at h
  | .cons a r, T, x :: xs, h => by
    simp only [ckl, Bool.and_eq_true] at h
    rw [List.all_cons, stars h.2, Bool.and_true]
    cases x <;> first | rfl | skip
    cases a <;> first | (cases h.1; done) | (simp [ck] at h; done)
end
end Bk
/-! E9b: comprehensions of two clauses. -/
namespace Bk
open PySem PySem.Spec PyProof.Rows L2
def eW (K : Fg) (f : Vn → Rs (List D)) : TI := fun σ H R => ∃ G, tW K G false f σ H R
theorem piG {X : Cx} {tg x : Expr} {f : Vn → Rs (List D)} (h : ∀ G, PI X tg x (tW X.K G false f)) : PI X tg x (eW X.K f) := ⟨fun pins s σ H R I ⟨G, q⟩ => (h G).run pins s σ H R I q⟩
mutual
/-- a target makes no owner -/
theorem asg_own : ∀ (t : Tg) {d : D} {e e' : Vn}, asg t d e = .ok e' → ∀ j, isOwn (gt e' j) = true → isOwn (gt e j) = true
  | .nm i, d, e, e', h, j, hj => by
    simp only [asg, Rs.ok.injEq] at h
    subst h
    by_cases z : i = j
    · subst z
      by_cases hl : i < e.length
      · rw [gt_pt_same _ _ _ hl] at hj
        cases hj
      · have : gt (pt e i (some (.v d))) i = none := by
          rw [gt_get, List.getElem?_eq_none (by rw [pt_length]; omega)]
          rfl
        rw [this] at hj
        cases hj
    · rwa [gt_pt_ne _ _ _ _ z] at hj
  | .tp ts, d, e, e', h, j, hj => by
    cases d <;> first | (simp [asg] at h; done) | skip
    simp only [asg] at h
    exact asgs_own ts h j hj
theorem asgs_own : ∀ (ts : Tgs) {ds : List D} {e e' : Vn}, asgs ts ds e = .ok e' → ∀ j, isOwn (gt e' j) = true → isOwn (gt e j) = true
  | .nil, ds, e, e', h, j, hj => by
    cases ds with
    | cons _ _ => simp [asgs] at h
    | nil =>
      simp only [asgs, Rs.ok.injEq] at h
      subst h
      exact hj
  | .cons t ts, ds, e, e', h, j, hj => by
    cases ds with
    | nil => simp [asgs] at h
    | cons d ds =>
      obtain ⟨e1, h3, h4⟩ := Rs.bind_eq_ok (show (asg t d e).bind _ = .ok e' by simpa only [asgs] using h)
      exact asg_own t h3 j (asgs_own ts h4 j hj)
end
theorem catR_cons {f : D → Rs (List D)} {x : D} {xs ys : List D} (h : catR f (x :: xs) = .ok ys) : ∃ o r, f x = .ok o ∧ catR f xs = .ok r ∧ ys = o ++ r := by
  obtain ⟨o, h1, h2⟩ := Rs.bind_eq_ok (show (f x).bind _ = .ok ys from h)
  obtain ⟨r, h3, h4⟩ := Rs.bind_eq_ok h2
  cases h4
  exact ⟨o, r, h1, h3, rfl⟩
section
variable {G : Gh}
/-- the list that grows, of which nobody else knows, changes -/
theorem Mt'.grow {K : Fg} {e : Vn} {σ : Stt} {H : Hp} {p : Addr} {o u : HO} (m : Mt' K (G.plus p) e σ H) (hp : H p = some o) (n : ¬ TbO o) (h0 : G.H0 p = none) (hu : NT (some u)) : Mt' K (G.plus p) e σ (upd H p u) where
  len := m.len
  tab := m.tab.upd hp n
  ext := fun b o h => by
    rw [upd_ne (ne_of_none h h0)]
    exact m.ext b o h
  ban := fun b h => by
    by_cases z : b = p
    · rw [z, upd_same]; exact hu
    · rw [upd_ne z]; exact m.ban b h
  val := fun i d h => by
    obtain ⟨v, h1, h2⟩ := m.val i d h
    exact ⟨v, h1, h2.up (cutH_upd (.inl (.inr rfl)))⟩
  own := fun i d h => by
    obtain ⟨a, h1, h2, h3, h4⟩ := m.own i d h
    have ha : a ≠ p := fun z => h3 (.inr z)
    exact ⟨a, h1, h2, h3, h4.up (fun o z => .inl (by rw [upd_ne ha]; exact z)) (cutH_upd (.inl (.inr rfl)))⟩
  inj := m.inj
/-- a comprehension's reading, two clauses -/
theorem lc2Read {K : Fg} {w w2 : Vn → Rs (List D)} {asn asn2 : D → Vn → Rs Vn} {cs cs2 : Vn → Rs Bool} {el : Vn → Rs D} {own own2 : List Nat} {f : Vn → Rs D} (hA : ∀ d e e', asn d e = .ok e' → ∀ j, j ∉ own → gt e' j = gt e j) (hA2 : ∀ d e e', asn2 d e = .ok e' → ∀ j, j ∉ own2 → gt e' j = gt e j)
    (hO1 : ∀ d e e', asn d e = .ok e' → ∀ j, isOwn (gt e' j) = true → isOwn (gt e j) = true) (hsub : ∀ j ∈ own2, j ∈ own)
    (hf : ∀ e d, f e = .ok d → own.any (fun i => isOwn (gt e i)) = false ∧ ∃ xs ys, w e = .ok xs ∧
      catR (fun x => (asn x (kil own e)).bind fun e2 => (cs e2).bind fun k => if k then (w2 e2).bind fun zs =>
        mapR (fun z => (asn2 z (kil own2 e2)).bind fun e3 => (cs2 e3).bind fun k2 => if k2 then (el e3).bind fun y => .ok (some y) else .ok none) zs else .ok []) xs = .ok ys ∧ ys.length ≤ 16777216 ∧ d = .list ys)
    {σ : Stt} {H : Hp} {Q : VK} (t : tO K G f σ H Q) : tLc2 (tW K G true w) (eG K own asn) (eQ K cs) (eW K w2) (eG K own2 asn2) (eQ K cs2) (eE K el) own own2 σ H Q := by
  obtain ⟨e, d, m, h0, q⟩ := t
  obtain ⟨ho, xs, ys, h1, h2, hys, rfl⟩ := hf e d h0
  refine ⟨e, xs, m, h1, fun J H1 s1 wk p hp => ?_⟩
  have m1 := m.up s1
  obtain ⟨m0, hO⟩ := m1.wipe' ho
  have fin : ∀ {acc H2}, H2 p = some (.lst acc) → Same H1 H2 → RpA K (Fz (G.plus p) e σ H2) acc ys → Q (.ref p) H2 := fun {acc H2} a1 a2 a3 => by
    refine q p H2 (s1.trans a2) (s1.free hp) (.lst a1 (a3.up (cutH_same (fun b h => ?_) (Same.refl H2))))
    rcases h with h | h | h
    · exact .inl (.inl (.inl h))
    · exact .inl (.inr h)
    · exact .inl (.inl (.inr h))
  generalize hcat : (fun x => (asn x (kil own e)).bind fun e2 => (cs e2).bind fun k => if k = true then (w2 e2).bind fun zs =>
        mapR (fun z => (asn2 z (kil own2 e2)).bind fun e3 => (cs2 e3).bind fun k2 => if k2 = true then (el e3).bind fun y => .ok (some y) else .ok none) zs else .ok []) = F at h2
  refine ⟨fun i k H2 => k = xs.length - i ∧ i ≤ xs.length ∧ ∃ acc done rest, H2 p = some (.lst acc) ∧ Same H1 H2 ∧ RpA K (Fz (G.plus p) e σ H2) acc done ∧
    catR F (xs.drop i) = .ok rest ∧ done ++ rest = ys, ⟨xs.length, rfl, Nat.zero_le _, [], [], ys, upd_same, same_new hp, .nil, h2, rfl⟩, ?_⟩
  rintro i k H2 ⟨rfl, hi, acc, done, rest, a1, a2, a3, a5, a6⟩
  by_cases hlt : i < xs.length
  · refine .inr ⟨wk.goes i H2 hlt a2, fun H3 => ∃ acc done rest, H3 p = some (.lst acc) ∧ Same H1 H3 ∧ RpA K (Fz (G.plus p) e σ H3) acc done ∧
      catR F (xs.drop (i + 1)) = .ok rest ∧ done ++ rest = ys, fun H3 z => ⟨xs.length - (i + 1), by omega, rfl, hlt, z⟩, fun x H3 y => ?_⟩
    obtain ⟨s3, d, hd, hr⟩ := wk.yields i H2 x H3 hlt a2 y
    have e1 : xs.drop i = d :: xs.drop (i + 1) := by
      have := List.drop_eq_getElem_cons hlt
      rw [this]
      rw [List.getElem?_eq_getElem hlt] at hd
      cases hd
      rfl
    rw [e1] at a5
    obtain ⟨o, r, k1, k2, k3⟩ := catR_cons a5
    rw [← hcat] at k1
    obtain ⟨e2, k4, k5⟩ := Rs.bind_eq_ok k1
    obtain ⟨c, k6, k7⟩ := Rs.bind_eq_ok k5
    have d2 : NT (H2 p) := by rw [a1]; exact ⟨fun z => (nomatch z), fun _ z => (nomatch z)⟩
    have mP : Mt' K (G.plus p) (kil own e) (wipe σ own) H2 := m0.plus hp a2 d2
    have hO' : ∀ b, Own (kil own e) (wipe σ own) b → NT (H2 b) := fun b z => mP.ownThere z
    have hx : Rp K (Fz (G.plus p) (kil own e) (wipe σ own) H3) x d := hr _ (fun b z => z.elim (mP.ban b) (hO' b)) (cutH_same (fun b z => by
      rcases z with (z | z) | z
      · exact .inl (.inl z)
      · exact .inr (by rw [z]; exact hp)
      · exact .inl (.inr ((hO b).mp z))) a2)
    refine ⟨G.plus p, kil own e, d, e2, mP.up s3, hx, k4, fun σ2 m2 f2 ap => ⟨wipe_apart ap, G.plus p, e2, c, m2, k6, fun H4 s4 => ?_⟩⟩
    have keep : ∀ {H5}, Same H2 H5 → H5 p = some (.lst acc) := fun s => s.is a1 ntL
    have grow : ∀ {H5}, Same H2 H5 → RpA K (Fz (G.plus p) e σ H5) acc done := fun s => a3.up (fz_up s)
    cases c with
    | false =>
      simp only [Bool.false_eq_true, if_false, Rs.ok.injEq] at k7 ⊢
      subst k7
      subst k3
      have s := s3.trans s4
      exact ⟨acc, done, rest, keep s, a2.trans s, grow s, k2, a6⟩
    | true =>
      simp only [if_true] at k7 ⊢
      obtain ⟨zs, k8, k9⟩ := Rs.bind_eq_ok k7
      subst k3
      -- no owner among the second target's names
      have ho2 : own2.any (fun i => isOwn (gt e2 i)) = false := by
        rw [List.any_eq_false]
        intro j hj hz
        have h3 := hO1 _ _ _ k4 j hz
        have hjo := hsub j hj
        rcases Nat.lt_or_ge j e.length with hl | hl
        · rw [(gt_kil own e j).1 hjo hl] at h3
          cases h3
        · have : gt (kil own e) j = none := by
            rw [gt_get, List.getElem?_eq_none (by rw [kil_length]; exact hl)]
            rfl
          rw [this] at h3
          cases h3
      have m4 := m2.up s4
      refine ⟨G.plus p, e2, zs, m4, k8, fun J1 H5 s5 wk1 => ?_⟩
      have wk1 : Wlk K (Fz (G.plus p) e2 σ2 H5) (Fz (G.plus p) e2 σ2 H5) J1 zs := wk1
      have s25 := (s3.trans s4).trans s5
      have h0p : G.H0 p = none := m1.ext.free hp
      have nl : ∀ l : List V, NT (some (HO.lst l)) := fun l => ⟨fun z => (nomatch z), fun _ z => (nomatch z)⟩
      generalize hmap : (fun z => (asn2 z (kil own2 e2)).bind fun e3 => (cs2 e3).bind fun k2 => if k2 = true then (el e3).bind fun y => .ok (some y) else .ok none) = F2 at k9
      refine ⟨fun j k H6 => k = zs.length - j ∧ j ≤ zs.length ∧ ∃ acc1 done1 r1, H6 p = some (.lst acc1) ∧ Same H1 H6 ∧ Mt' K (G.plus p) e2 σ2 H6 ∧ Same (Fz (G.plus p) e2 σ2 H5) (Fz (G.plus p) e2 σ2 H6) ∧ RpA K (Fz (G.plus p) e σ H6) acc1 done1 ∧
        mapR F2 (zs.drop j) = .ok r1 ∧ done1 ++ (r1 ++ r) = ys, ⟨zs.length, rfl, Nat.zero_le _, acc, done, o, keep s25, a2.trans s25, m4.up s5, Same.refl _, grow s25, k9, a6⟩, ?_⟩
      rintro j k H6 ⟨rfl, hj, acc1, done1, r1, b1, b2, b6, b7, b3, b4, b5⟩
      by_cases hlt1 : j < zs.length
      · refine .inr ⟨wk1.goes j H6 hlt1 (b7.trans cutH_sub), fun H7 => ∃ acc1 done1 r1, H7 p = some (.lst acc1) ∧ Same H1 H7 ∧ Mt' K (G.plus p) e2 σ2 H7 ∧ Same (Fz (G.plus p) e2 σ2 H5) (Fz (G.plus p) e2 σ2 H7) ∧ RpA K (Fz (G.plus p) e σ H7) acc1 done1 ∧
          mapR F2 (zs.drop (j + 1)) = .ok r1 ∧ done1 ++ (r1 ++ r) = ys, fun H7 z => ⟨zs.length - (j + 1), by omega, rfl, hlt1, z⟩, fun x1 H7 y1 => ?_⟩
        obtain ⟨s7, dz, hdz, hrz⟩ := wk1.yields j H6 x1 H7 hlt1 (b7.trans cutH_sub) y1
        have e4 : zs.drop j = dz :: zs.drop (j + 1) := by
          have := List.drop_eq_getElem_cons hlt1
          rw [this]
          rw [List.getElem?_eq_getElem hlt1] at hdz
          cases hdz
          rfl
        rw [e4] at b4
        obtain ⟨o1, r2, l1, l2, l3⟩ := mapR_cons b4
        rw [← hmap] at l1
        obtain ⟨e3, l4, l5⟩ := Rs.bind_eq_ok l1
        obtain ⟨c2, l6, l7⟩ := Rs.bind_eq_ok l5
        obtain ⟨m7, hO2⟩ := b6.wipe' ho2
        have hO2' : ∀ b, Own (kil own2 e2) (wipe σ2 own2) b → NT (H6 b) := fun b z => m7.ownThere z
        have hx1 : Rp K (Fz (G.plus p) (kil own2 e2) (wipe σ2 own2) H7) x1 dz := hrz _ (fun b z => z.elim (m7.ban b) (hO2' b)) (b7.trans (cutH_same (fun b z => by
          rcases z with z | z
          · exact .inl (.inl z)
          · exact .inl (.inr ((hO2 b).mp z))) (Same.refl H6)))
        refine ⟨G.plus p, kil own2 e2, dz, e3, m7.up s7, hx1, l4, fun σ3 m8 f8 ap3 => ⟨wipe_apart ap3, G.plus p, e3, c2, m8, l6, fun H8 s8 => ?_⟩⟩
        have keep1 : ∀ {H9}, Same H6 H9 → H9 p = some (.lst acc1) := fun s => s.is b1 ntL
        have grow1 : ∀ {H9}, Same H6 H9 → RpA K (Fz (G.plus p) e σ H9) acc1 done1 := fun s => b3.up (fz_up s)
        cases c2 with
        | false =>
          simp only [Bool.false_eq_true, if_false, Rs.ok.injEq] at l7 ⊢
          subst l7
          subst l3
          have s := s7.trans s8
          exact ⟨acc1, done1, r1, keep1 s, b2.trans s, b6.up s, b7.trans (fz_up s), grow1 s, l2, b5⟩
        | true =>
          simp only [if_true] at l7 ⊢
          obtain ⟨dy, l8, l9⟩ := Rs.bind_eq_ok l7
          cases l9
          subst l3
          refine ⟨G.plus p, e3, dy, m8.up s8, l8, fun v H9 s9 r9 => ?_⟩
          have s := (s7.trans s8).trans s9
          have hsz : acc1.length < 16777216 := by
            have q1 := b3.len
            have q2 := congrArg List.length b5
            rw [List.length_append, List.length_append, List.length_cons] at q2
            omega
          refine ⟨acc1, keep1 s, by rw [sl16]; omega, acc1 ++ [v], done1 ++ [dy], r2, upd_same, fun b u z => ?_, (b6.up s).grow (keep1 s) ntL h0p (nl _), (b7.trans (fz_up s)).trans (cutH_upd (.inl (.inr rfl))), ?_, l2, by rw [List.append_assoc]; exact b5⟩
          · rcases (b2.trans s) b u z with z2 | ⟨t, o', z2, t'⟩
            · exact .inl (by rw [upd_ne (ne_of_none z hp)]; exact z2)
            · exact .inr ⟨t, o', by rw [upd_ne (ne_of_none z hp)]; exact z2, t'⟩
          · have r9' : Rp K (Fz (G.plus p) e σ H9) v dy := r9.up (cutH_same (fun b z => by
              rcases z with z | z
              · exact .inl (.inl z)
              · obtain ⟨j1, dj, q1, q2⟩ := (hO b).mpr z
                have nj := (kil_some q1).1
                have nj2 : j1 ∉ own2 := fun h => nj (hsub j1 h)
                have q3 : gt e2 j1 = some (.o dj) := by rw [hA _ _ _ k4 j1 nj]; exact q1
                have q4 : σ2[j1]? = some (some (.ref b)) := by rw [ap.2 j1 nj]; exact q2
                exact .inl (.inr ⟨j1, dj, by rw [hA2 _ _ _ l4 j1 nj2, (gt_kil own2 e2 j1).2 nj2]; exact q3, by rw [ap3.2 j1 nj2, wipe_at nj2]; exact q4⟩)) (Same.refl H9))
            exact ((grow1 s).app (.cons r9' .nil)).up (cutH_upd (.inl (.inr rfl)))
      · have e4 : j = zs.length := by omega
        subst e4
        rw [List.drop_length] at b4
        cases b4
        exact .inl ⟨wk1.stops H6 (b7.trans cutH_sub), acc1, done1, r, b1, b2, b3, k2, b5⟩
  · have e1 : i = xs.length := by omega
    subst e1
    rw [List.drop_length] at a5
    cases a5
    rw [List.append_nil] at a6
    subst a6
    exact .inl ⟨wk.stops H2 a2, fin a1 a2 a3⟩
end
section
variable {X : Cx} {C : Cn} {T : Tb} {G : Gh}
theorem lc2O {el : Xp} {t t2 : Tg} {w w2 : Wk} {cs cs2 : Xps} {own own2 : List Nat} (he : PX C el) (hw : PXw C w) (hc : PXs C cs) (hw2 : PXw C w2) (hc2 : PXs C cs2) {x : Expr} (g : Gd X C T) (q : ck T .val (.lc2 el t w cs t2 w2 cs2 own own2) x = true) :
    ∃ y tg it ifs tg1 it1 ifs1 scope pos, x = .ListComp y [⟨tg, it, ifs, 0⟩, ⟨tg1, it1, ifs1, 0⟩] scope pos ∧ BlkOk X.N X.env.scope scope (own.map fun i => (T.N.getD i "", i)) ∧ (∀ i ∈ own2, i ∈ own) ∧ (∀ {G : Gh}, PI X tg it (tW X.K G true (evw C w))) ∧
      (∀ (s : Shared) (H : Hp) (c : Addr) (cl : List (Str × Addr)) (fp : List Addr), PG (X.blk s H scope (compEnvC scope cl c X.env) fp) tg (eG X.K own (asg t))) ∧
      (∀ (s : Shared) (H : Hp) (c : Addr) (cl : List (Str × Addr)) (fp : List Addr), PTs (X.blk s H scope (compEnvC scope cl c X.env) fp) ifs (eQ X.K (evc C cs))) ∧
      (∀ (s : Shared) (H : Hp) (c : Addr) (cl : List (Str × Addr)) (fp : List Addr), PI (X.blk s H scope (compEnvC scope cl c X.env) fp) tg1 it1 (eW X.K (evw C w2))) ∧
      (∀ (s : Shared) (H : Hp) (c : Addr) (cl : List (Str × Addr)) (fp : List Addr), PG (X.blk s H scope (compEnvC scope cl c X.env) fp) tg1 (eG X.K own2 (asg t2))) ∧
      (∀ (s : Shared) (H : Hp) (c : Addr) (cl : List (Str × Addr)) (fp : List Addr), PTs (X.blk s H scope (compEnvC scope cl c X.env) fp) ifs1 (eQ X.K (evc C cs2))) ∧
      (∀ (s : Shared) (H : Hp) (c : Addr) (cl : List (Str × Addr)) (fp : List Addr), PE (X.blk s H scope (compEnvC scope cl c X.env) fp) y (eE X.K (ev C el))) ∧ notSet it = true ∧ notSet it1 = true ∧
      (∀ d e e', asg t d e = .ok e' → ∀ j, j ∉ own → gt e' j = gt e j) ∧ ∀ d e e', asg t2 d e = .ok e' → ∀ j, j ∉ own2 → gt e' j = gt e j := by
  cases x <;> first | (cases q; done) | skip
  rename_i y gs scope pos
  cases gs with
  | nil => cases q
  | cons c0 gs =>
    obtain ⟨tg, it, ifs, a⟩ := c0
    cases gs with
    | nil => cases q
    | cons c1 gs =>
      obtain ⟨tg1, it1, ifs1, a1⟩ := c1
      cases gs with
      | cons _ _ => cases q
      | nil =>
        simp only [ck, Bool.and_eq_true, decide_eq_true_eq, List.all_eq_true] at q
        obtain ⟨⟨⟨⟨⟨⟨⟨⟨⟨⟨⟨⟨rfl, rfl⟩, h1⟩, hs⟩, h2⟩, h3⟩, h3'⟩, h4⟩, h5⟩, k2⟩, k4⟩, k5⟩, h6⟩ := q
        exact ⟨y, tg, it, ifs, tg1, it1, ifs1, scope, pos, rfl, blkOk_by (by rw [g.N, g.sc]; exact h1), hs, fun {G} => hw.walk (G := G) g h2 (fun z => nomatch z), fun s H c cl fp => pgG fun G => sGd g s H scope cl c fp h4, fun s H c cl fp => ptsG fun G => hc.cs (G := G) (gdBlk g s H scope cl c fp) h5,
          fun s H c cl fp => piG fun G => hw2.walk (G := G) (gdBlk g s H scope cl c fp) k2 (fun z => nomatch z), fun s H c cl fp => pgG fun G => sGd g s H scope cl c fp k4, fun s H c cl fp => ptsG fun G => hc2.cs (G := G) (gdBlk g s H scope cl c fp) k5,
          fun s H c cl fp => peG fun G => he.val (G := G) (gdBlk g s H scope cl c fp) h6, h3, h3', fun d e e' => asg_apart t h4, fun d e e' => asg_apart t2 k4⟩
theorem lc2Ev {el : Xp} {t t2 : Tg} {w w2 : Wk} {cs cs2 : Xps} {own own2 : List Nat} (e : Vn) (d : D) (h : ev C (.lc2 el t w cs t2 w2 cs2 own own2) e = .ok d) : own.any (fun i => isOwn (gt e i)) = false ∧ ∃ xs ys, evw C w e = .ok xs ∧
    catR (fun x => (asg t x (kil own e)).bind fun e2 => (evc C cs e2).bind fun k => if k then (evw C w2 e2).bind fun zs =>
      mapR (fun z => (asg t2 z (kil own2 e2)).bind fun e3 => (evc C cs2 e3).bind fun k2 => if k2 then (ev C el e3).bind fun y => .ok (some y) else .ok none) zs else .ok []) xs = .ok ys ∧ ys.length ≤ 16777216 ∧ d = .list ys := by
  simp only [ev] at h
  split at h
  · cases h
  · rename_i ho
    obtain ⟨xs, h1, h2⟩ := Rs.bind_eq_ok h
    obtain ⟨ys, h3, h4⟩ := Rs.bind_eq_ok h2
    split at h4
    · rename_i hz
      cases h4
      exact ⟨by simpa using ho, xs, ys, h1, Rs.calm_eq_ok h3, hz, rfl⟩
    · cases h4
theorem lc2PE {el : Xp} {t t2 : Tg} {w w2 : Wk} {cs cs2 : Xps} {own own2 : List Nat} (he : PX C el) (hw : PXw C w) (hc : PXs C cs) (hw2 : PXw C w2) (hc2 : PXs C cs2) {x : Expr} (g : Gd X C T) (q : ck T .val (.lc2 el t w cs t2 w2 cs2 own own2) x = true) : PE X x (tO X.K G (ev C (.lc2 el t w cs t2 w2 cs2 own own2))) := by
  obtain ⟨y, tg, it, ifs, tg1, it1, ifs1, scope, pos, rfl, h1, hs, h2, h3, h4, k2, k3, k4, h5, h6, h6', h7, h8⟩ := lc2O he hw hc hw2 hc2 g q
  refine peImp (pe_lc2 (vs1 := own2) g.calm (by rw [g.N]; exact g.nd) (h2 (G := G)) h1 (fun i hi => by rw [ownMap]; exact hs i hi) h3 h4 k2 k3 k4 h5 (noSetF h6 X.env) (fun env => noSetF h6' env)) fun σ H Q w => ?_
  rw [ownMap]
  exact lc2Read h7 h8 (fun d e e' z => asg_own t z) hs lc2Ev w
theorem lc2_nd {el : Xp} {t t2 : Tg} {w w2 : Wk} {cs cs2 : Xps} {own own2 : List Nat} (e : Vn) (d : D) (z : ev C (.lc2 el t w cs t2 w2 cs2 own own2) e = .ok d) : nd d = true := by
  obtain ⟨_, xs, ys, _, _, _, rfl⟩ := lc2Ev e d z
  rfl
theorem pLc2 {el : Xp} {t t2 : Tg} {w w2 : Wk} {cs cs2 : Xps} {own own2 : List Nat} (he : PX C el) (hw : PXw C w) (hc : PXs C cs) (hw2 : PXw C w2) (hc2 : PXs C cs2) : PX C (.lc2 el t w cs t2 w2 cs2 own own2) := lift (fun {X T G x} g q => peImp (lc2PE he hw hc hw2 hc2 g q) fun _ _ _ => tO_tE lc2_nd)
  (fun _ x => by cases x <;> rfl) (fun _ x => by cases x <;> rfl) fun _ x h => by cases x <;> first | rfl | cases h
end
end Bk
/-! E10: statements: what is wanted behind them, the changes of a frame, when a term is a text. -/
namespace Bk
open PySem PySem.Spec PyProof.Rows L2
section
variable {K : Fg} {G : Gh} {e : Vn} {σ : Stt} {H H' : Hp}
/-- what is wanted of an outcome; F: the quiet part ahead -/
def Post (K : Fg) (G : Gh) (W : WX) (D : Ends) (F : Hp) : Ot → Prop
  | .nx e' => ∀ σ' H', Mt' K G e' σ' H' → Same F (Fz G e' σ' H') → D.nx σ' H'
  | .bk e' => ∀ σ' H', Mt' K G e' σ' H' → Same F (Fz G e' σ' H') → D.bk σ' H'
  | .ct e' => ∀ σ' H', Mt' K G e' σ' H' → Same F (Fz G e' σ' H') → D.ct σ' H'
  | .rt d => ∀ v H', Same G.H0 H' → Rp K (cutH G.ban H') v d → D.rt v H'
  | .er c xs e' => ∀ σ' H', Mt' K G e' σ' H' → Same F (Fz G e' σ' H') → ∀ cls d, ExcV K c xs cls d H' → W cls d σ' H'
  | .st => False
def tS (K : Fg) (G : Gh) (W : WX) (g : Vn → Ot) : TS := fun D σ H => ∃ e, Mt' K G e σ H ∧ Post K G W D (Fz G e σ H) (g e)
theorem Post.up {W : WX} {D : Ends} {F F' : Hp} (s : Same F F') : ∀ {o : Ot}, Post K G W D F o → Post K G W D F' o
  | .nx _, h => fun σ' H' m t => h σ' H' m (s.trans t)
  | .bk _, h => fun σ' H' m t => h σ' H' m (s.trans t)
  | .ct _, h => fun σ' H' m t => h σ' H' m (s.trans t)
  | .rt _, h => h
  | .er _ _ _, h => fun σ' H' m t cls d x => h σ' H' m (s.trans t) cls d x
  | .st, h => h
theorem post_to {α : Type} {W : WX} {D : Ends} {F : Hp} {r : Rs α} {e0 : Vn} {f : α → Ot} (h : Post K G W D F (r.to e0 f)) : ∃ a, r = .ok a ∧ Post K G W D F (f a) := by
  cases r with
  | ok a => exact ⟨a, rfl, h⟩
  | er c xs => exact h.elim
  | st => exact h.elim
/-- a new list or dict into a slot -/
theorem Mt'.putNew (m : Mt' K G e σ H) (s : Same H H') {a : Addr} {d : D} (hn : H a = none) (t : Top K H' (cutH (fun b => G.ban b ∨ Own e σ b ∨ b = a) H') a d) (i : Nat) :
    Mt' K G (pt e i (some (.o d))) (σ.set i (some (.ref a))) H' ∧ Same (Fz G e σ H) (Fz G (pt e i (some (.o d))) (σ.set i (some (.ref a))) H') := by
  have m1 := m.up s
  have up0 : Same (Fz G e σ H) (cutH (fun b => G.ban b ∨ Own e σ b ∨ b = a) H') := cutH_same (fun b h => by
    rcases h with h | h | h
    · exact .inl (.inl h)
    · exact .inl (.inr h)
    · exact .inr (by rw [h]; exact hn)) s
  by_cases hi : i < e.length
  · have hσ : i < σ.length := by rw [← m.len]; exact hi
    refine ⟨m1.putO hi ?_ (fun z => (m.ban a z).1 hn) (fun j d' h1 h2 => ?_) (fun j d' h => ?_) (fun j d' b h h1 => ?_) t, up0.trans (cutH_same (fun b h => ?_) (Same.refl H'))⟩
    · cases q : G.H0 a with
      | none => rfl
      | some o => exact absurd (m.ext.free hn) (by rw [q]; exact fun z => nomatch z)
    · obtain ⟨b, h3, _, _, h4⟩ := m.own j d' h1
      rw [h2] at h3
      cases h3
      exact h4.there.1 hn
    · obtain ⟨v, h1, h2⟩ := m.val j d' h
      exact ⟨v, h1, h2.up up0⟩
    · obtain ⟨b', h3, _, _, h4⟩ := m.own j d' h
      rw [h1] at h3
      cases h3
      exact h4.up (s _) up0
    · refine .inl (h.imp id ?_)
      rintro ⟨j, d', q1, q2⟩
      by_cases hj : i = j
      · subst hj
        rw [List.getElem?_set_self hσ] at q2
        cases q2
        exact .inr rfl
      · rw [gt_pt_ne _ _ _ _ hj] at q1
        rw [List.getElem?_set_ne hj] at q2
        exact .inl ⟨j, d', q1, q2⟩
  · rw [pt_set, List.set_eq_of_length_le (by omega), List.set_eq_of_length_le (by rw [← m.len]; omega)]
    exact ⟨m1, fz_up s⟩
/-- an owned list is changed -/
theorem Mt'.mut (m : Mt' K G e σ H) {i : Nat} {d d' : D} {a : Addr} {o : HO} (h : gt e i = some (.o d)) (ha : σ[i]? = some (some (.ref a))) (t : Top K (upd H a o) (Fz G e σ H) a d') :
    Mt' K G (pt e i (some (.o d'))) σ (upd H a o) ∧ Same (Fz G e σ H) (Fz G (pt e i (some (.o d'))) σ (upd H a o)) := by
  have hi := gt_lt h
  obtain ⟨a', h1, h2, h3, h4⟩ := m.own i d h
  rw [ha] at h1
  cases h1
  have hO : ∀ b, Own (pt e i (some (.o d'))) σ b ↔ Own e σ b := fun b => by
    constructor
    · rintro ⟨j, dj, q1, q2⟩
      by_cases hj : i = j
      · subst hj; exact ⟨i, d, h, q2⟩
      · rw [gt_pt_ne _ _ _ _ hj] at q1; exact ⟨j, dj, q1, q2⟩
    · rintro ⟨j, dj, q1, q2⟩
      by_cases hj : i = j
      · subst hj; exact ⟨i, d', gt_pt_same _ _ _ hi, q2⟩
      · exact ⟨j, dj, by rw [gt_pt_ne _ _ _ _ hj]; exact q1, q2⟩
  have hs : Same (Fz G e σ H) (Fz G (pt e i (some (.o d'))) σ (upd H a o)) := fun b u z => by
    obtain ⟨z1, z2⟩ := cutH_some.mp z
    refine .inl (cutH_some.mpr ⟨fun q => z1 (q.imp id (hO b).mp), ?_⟩)
    rw [upd_ne fun q => z1 (.inr (by rw [q]; exact ⟨i, d, h, ha⟩))]
    exact z2
  refine ⟨⟨by rw [pt_length]; exact m.len, fun b u z => ?_, fun b z => ?_, fun j dj q => ?_, fun j dj q => ?_, fun j k b d1 d2 q1 q2 q3 q4 => ?_, ?_⟩, hs⟩
  · have hb : b ≠ a := fun q => by rw [q, h2] at z; cases z
    rcases m.ext b u z with z2 | ⟨t2, o', z2, t'⟩
    · exact .inl (by rw [upd_ne hb]; exact z2)
    · exact .inr ⟨t2, o', by rw [upd_ne hb]; exact z2, t'⟩
  · by_cases hb : b = a
    · subst hb; exact absurd z h3
    · rw [upd_ne hb]; exact m.ban b z
  · by_cases hj : i = j
    · subst hj; rw [gt_pt_same _ _ _ hi] at q; cases q
    · rw [gt_pt_ne _ _ _ _ hj] at q
      obtain ⟨v, q1, q2⟩ := m.val j dj q
      exact ⟨v, q1, q2.up hs⟩
  · by_cases hj : i = j
    · subst hj
      rw [gt_pt_same _ _ _ hi] at q
      cases q
      exact ⟨a, ha, h2, h3, t.up (fun _ z => .inl z) hs⟩
    · rw [gt_pt_ne _ _ _ _ hj] at q
      obtain ⟨b, q1, q2, q3, q4⟩ := m.own j dj q
      refine ⟨b, q1, q2, q3, q4.up (fun u z => .inl ?_) hs⟩
      rw [upd_ne fun z => hj (m.inj i j a d dj h q ha (by rw [← z]; exact q1))]
      exact z
  · have back : ∀ {j dj}, gt (pt e i (some (.o d'))) j = some (.o dj) → ∃ dk, gt e j = some (.o dk) := fun {j dj} q => by
      by_cases hj : i = j
      · subst hj; exact ⟨d, h⟩
      · rw [gt_pt_ne _ _ _ _ hj] at q; exact ⟨dj, q⟩
    obtain ⟨k1, z1⟩ := back q1
    obtain ⟨k2, z2⟩ := back q2
    exact m.inj j k b k1 k2 z1 z2 q3 q4
  · cases h4 with
    | lst z _ => exact m.tab.upd z ntL
    | dK z _ => exact m.tab.upd z ntK
    | dT z _ => exact m.tab.upd z ntD
theorem fz_kill : ∀ (is : List Nat) (e : Vn), Same (Fz G e σ H) (Fz G (kil is e) σ H) := fun is e => cutH_same (fun b h => .inl (h.imp id fun ⟨j, d, h1, h2⟩ => ⟨j, d, (kil_some h1).2, h2⟩)) (Same.refl H)
theorem fz_freeze {i : Nat} {d : D} (h : gt e i = some (.o d)) : Same (Fz G e σ H) (Fz G (pt e i (some (.v d))) σ H) := cutH_same (fun b z => .inl (z.imp id fun ⟨j, dj, h1, h2⟩ => by
    by_cases hj : i = j
    · subst hj; exact ⟨i, d, h, h2⟩
    · rw [gt_pt_ne _ _ _ _ hj] at h1; exact ⟨j, dj, h1, h2⟩)) (Same.refl H)
theorem Mt'.putV (m : Mt' K G e σ H) {v : V} {d : D} (r : Rp K (Fz G e σ H) v d) (i : Nat) : Mt' K G (pt e i (some (.v d))) (σ.set i (some v)) H ∧ Same (Fz G e σ H) (Fz G (pt e i (some (.v d))) (σ.set i (some v)) H) := by
  by_cases hi : i < e.length
  · exact ⟨m.put hi r, fz_put m hi⟩
  · rw [pt_set, List.set_eq_of_length_le (by omega), List.set_eq_of_length_le (by rw [← m.len]; omega)]
    exact ⟨m, Same.refl _⟩
end

/-! ### when a term is a statement's -/
def notComp : Expr → Bool
  | .ListComp .. => false
  | .SetComp .. => false
  | .DictComp .. => false
  | _ => true
def notTup : Expr → Bool
  | .Tuple .. => false
  | _ => true
def slB (T : Tb) (i : Nat) (x : Str) : Bool := decide (T.N[i]? = some x) && locB T.sc x
def isProd : Xp → Bool
  | .lst _ => true
  | .lc .. => true
  | .bi .list _ => true
  | .dnew _ => true
  | .ddis _ _ => true
  | _ => false
/-- a term that may raise -/
def ckR (T : Tb) : Xr → Expr → Bool
  | .x a, y => notComp y && ck T .val a y
  | .call j as, x => match x with
    | .Call (.Name n _) (y :: ys) [] _ => glB T.sc n && decide (T.fns[j]? = some (n, ys.length + 1)) && ckl T .val as (y :: ys) && (y :: ys).all notStar
    | _ => false
  | .cv i cs as, x => match x with
    | .Call (.Name n _) (y :: ys) [] _ => nmB T i n && cs.all (fun p => decide (T.fns[p.2]? = some (p.1, ys.length + 1))) && ckl T .val as (y :: ys) && (y :: ys).all notStar
    | _ => false
  | .ife c a b, x => match x with
    | .IfExp t y z _ => ck T .test c t && ckR T a y && ckR T b z
    | _ => false
/-- a term of an except clause, i the exception's slot -/
def ckHx (T : Tb) (i : Nat) (fs : List Str) : Hx → Expr → Bool
  | .fld f, x => match x with
    | .Attribute (.Name n _) g _ => decide (f = g) && decide (f ∈ fs) && nmB T i n && decide ((g == ("__class__" : Str)) = false)
    | _ => false
  | .var j, x => match x with
    | .Name n _ => nmB T j n
    | _ => false
  | .non, x => match x with
    | .Constant .none _ _ => true
    | _ => false
  | .bl v, x => match x with
    | .Constant (.bool w) _ _ => decide (v = w)
    | _ => false
  | .int v, x => match x with
    | .Constant (.int w) _ _ => decide (v = w)
    | _ => false
  | .str v, x => match x with
    | .Constant (.str w) _ _ => decide (v = w)
    | _ => false
  | .cmp op a b, x => match x with
    | .Compare l [o] [r] _ => decide (op = o) && ckHx T i fs a l && ckHx T i fs b r && notSet r
    | _ => false
  | .bo op a b, x => match x with
    | .BoolOp o [y, z] _ => decide (op = o) && ckHx T i fs a y && ckHx T i fs b z
    | _ => false
  | .nt a, x => match x with
    | .UnaryOp .Not y _ => ckHx T i fs a y
    | _ => false
  | .ife c a b, x => match x with
    | .IfExp t y z _ => ckHx T i fs c t && ckHx T i fs a y && ckHx T i fs b z
    | _ => false
def ckH (T : Tb) (i : Nat) (fs : List Str) : Hs → List Stmt → Bool
  | .ret a, xs => match xs with
    | [.Return (some y) _] => ckHx T i fs a y
    | _ => false
  | .ifr c a, xs => match xs with
    | [.If t [.Return (some y) _] [] _] => ckHx T i fs c t && ckHx T i fs a y
    | _ => false
def loc1 (T : Tb) (n : Str) : Bool := decide (T.sc.names.lookup n = some NameKind.local)
/-- a, b = x, y -/
def parB (T : Tb) : List Nat → List Expr → List Expr → Bool
  | [i, j], [.Name x px, .Name y py], [a, b] => decide (T.N[i]? = some x) && decide (T.N[j]? = some y) && decide (i ≠ j) && decide (x ≠ y) && loc1 T x && loc1 T y && decide (px.line = py.line) && notStar a && notStar b && !([a, b].all (foldedForSure 8)) && !([a, b].all (constantsAlone 8))
  | [i, j, l], [.Name x px, .Name y py, .Name z pz], [a, b, c] => decide (T.N[i]? = some x) && decide (T.N[j]? = some y) && decide (T.N[l]? = some z) && decide (i ≠ j) && decide (i ≠ l) && decide (j ≠ l) && decide (x ≠ y) && decide (x ≠ z) && decide (y ≠ z) && loc1 T x && loc1 T y && loc1 T z &&
      decide (px.line = py.line) && decide (px.line = pz.line) && notStar a && notStar b && notStar c && !([a, b, c].all (foldedForSure 8)) && !([a, b, c].all (constantsAlone 8))
  | _, _, _ => false
mutual
def ckS (T : Tb) : Sm → Stmt → Bool
  | .ex a, x => match x with
    | .Expr y _ => notComp y && ck T .lent a y
    | _ => false
  | .set i a, x => match x with
    | .Assign [.Name n _] y _ => slB T i n && ck T .val a y
    | _ => false
  | .setO i a, x => match x with
    | .Assign [.Name n _] y _ => slB T i n && ck T .val a y && isProd a
    | _ => false
  | .unp t a, x => match x with
    | .Assign [tg] y _ => isTup tg && notTup y && ckg T (List.range T.N.length) t tg && ck T .val a y
    | _ => false
  | .app i a, x => match x with
    | .Expr (.Call (.Attribute (.Name n _) m ap) [y] [] cp) _ => decide (m = "append") && nmB T i n && notStar y && (ap.endLine == cp.line) && ck T .val a y
    | _ => false
  | .ext i a, x => match x with
    | .Expr (.Call (.Attribute (.Name n _) m ap) [y] [] cp) _ => decide (m = "extend") && nmB T i n && notStar y && (ap.endLine == cp.line) && ck T .val a y
    | _ => false
  | .puti i k a, x => match x with
    | .Assign [.Subscript (.Name n _) z _] y _ => nmB T i n && notSlice z && ck T .lent k z && ck T .val a y
    | _ => false
  | .dput i k a, x => match x with
    | .Assign [.Subscript (.Name n _) z _] y _ => nmB T i n && notSlice z && notComp y && ck T .lent k z && ck T .val a y
    | _ => false
  | .dputT i ks a, x => match x with
    | .Assign [.Subscript (.Name n _) (.Tuple zs _ _) _] y _ => nmB T i n && notComp y && decide (zs.length ≤ 1000) && ckl T .val ks zs && ck T .val a y
    | _ => false
  | .aug i op a, x => match op, x with
    | .Add, .AugAssign (.Name n _) .Add y _ => slB T i n && ck T .val a y
    | _, _ => false
  | .ret a, x => match x with
    | .Return (some y) _ => ck T .val a y
    | _ => false
  | .retn, x => match x with
    | .Return none _ => true
    | _ => false
  | .ifs c a b, x => match x with
    | .If t y z _ => ck T .test c t && ckSs T a y && ckSs T b z
    | _ => false
  | .fors t w body kl, x => match x with
    | .For tg it y [] _ => ckw T .val tg w it && notSet it && ckg T (List.range T.N.length) t tg && ckSs T body y
    | _ => false
  | .whl n c body kl, x => match x with
    | .While t y [] _ => ck T .test c t && ckSs T body y
    | _ => false
  | .brk, x => match x with
    | .Break _ => true
    | _ => false
  | .cnt, x => match x with
    | .Continue _ => true
    | _ => false
  | .pas, x => match x with
    | .Pass _ => true
    | _ => false
  | .bad, x => true
  | .setX i r, x => match x with
    | .Assign [.Name n _] y _ => slB T i n && notComp y && ckR T r y
    | _ => false
  | .retX r, x => match x with
    | .Return (some y) _ => ckR T r y
    | _ => false
  | .exX r, x => match x with
    | .Expr y _ => notComp y && ckR T r y
    | _ => false
  | .unpX t r, x => match x with
    | .Assign [tg] y _ => isTup tg && notTup y && ckg T (List.range T.N.length) t tg && ckR T r y
    | _ => false
  | .rai c fs as, x => match x with
    | .Raise (some (.Call (.Name n _) (y :: ys) [] _)) none _ => decide (n = c) && glB T.sc n && decide ((c, fs) ∈ T.xcs) && decide (fs.length ≤ 100) && ckl T .val as (y :: ys) && (y :: ys).all notStar
    | _ => false
  | .par is as, x => match x with
    | .Assign [.Tuple ts _ _] (.Tuple vs _ _) _ => parB T is ts vs && ckl T .val as vs
    | _ => false
  | .trc body c os i h, x => match x with
    | .Try bd [.ExceptHandler (some (.Name n _)) (some m) (st :: sts) _] [] [] _ => ckSs T body bd && decide (n = c) && glB T.sc n && nmB T i m && slB T i m && loc1 T m && (os.all fun o => T.xcs.any fun p => decide (p.1 = o)) && (match T.xcs.lookup c with
      | some fs => ckH T i fs h (st :: sts)
      | none => false)
    | _ => false
def ckSs (T : Tb) : Sms → List Stmt → Bool
  | .nil, [] => true
  | .cons s r, x :: xs => ckS T s x && ckSs T r xs
  | .frz _ r, xs => ckSs T r xs
  | .kill _ r, xs => ckSs T r xs
  | _, _ => false
end
end Bk
/-! E10b: more expressions: what is never reached, max and min with a default, methods of texts. -/
namespace Bk
open PySem PySem.Spec PyProof.Rows L2
theorem pBad {C : Cn} : PX C .bad := lift (fun {X T G x} g h => ⟨fun pins s σ H Q I q => by
    obtain ⟨e, d, m, hf, q⟩ := q
    cases hf⟩) (fun _ x => by cases x <;> rfl) (fun _ x => by cases x <;> rfl) fun _ x h => by
    cases x <;> first | rfl | (cases h; done) | skip
    rename_i op _ _
    cases op <;> first | rfl | cases h
def rBest (K : Fg) (mn : Bool) : List V → List V → Hp → VK → Prop := fun xs zs H Q => ∃ p is d, xs = [.ref p] ∧ zs = [d] ∧ SqL K H p (is.map V.int) ∧ (is = [] → Q d H) ∧ ∀ i js, is = i :: js → Q (.int (if mn then js.foldl min i else js.foldl max i)) H
section
variable {X : Cx} {C : Cn} {T : Tb} {G : Gh}
theorem dp_ints {K : Fg} {H : Hp} : ∀ is : List Int, DpAll K H (is.map V.int) (is.map PyData.int)
  | [] => .nil
  | i :: is => .cons (.int i) (dp_ints is)
theorem cr_best (hc : X.calm = true) (hu : X.A.units + 64 < cLine) : ∀ mn : Bool, CallRK X (.builtin (if mn then "min" else "max")) ["default"] (rBest X.K mn)
  | true => by
    intro pins s σ H xs zs us ws Q I rx rz h
    obtain ⟨p, is, d, rfl, rfl, hs, h0, h1⟩ := h
    obtain ⟨its, rv, hl, _⟩ := I.list hs
    rw [Vals.ref1 rx]
    cases rz with
    | cons r1 r2 =>
      cases r2
      obtain ⟨as, hr⟩ := Dp.readsAll I _ _ its (dp_ints is) rv
      have hd : PyData.depthAll (is.map PyData.int) ≤ 0 := PySem.W.depthAll_map is
      refine PySem.W.min_list_default (I.ok.hd hc) hl.isList hr (PySem.W.alikeAll_datum is) (by omega) (fun e h' tk hk => ?_) (fun y ys i v h' tk bs e hi r hk => ?_)
      · exact ⟨d, H, I.kept hk, r1, h0 (List.map_eq_nil_iff.mp e)⟩
      · cases is with
        | nil => cases e
        | cons i is =>
          injection e with e1 e2
          subst e1
          subst e2
          rw [PySem.W.minD_ints] at r
          cases r
          exact ⟨.int _, H, I.kept hk, ⟨_, rfl⟩, h1 i is rfl⟩
  | false => by
    intro pins s σ H xs zs us ws Q I rx rz h
    obtain ⟨p, is, d, rfl, rfl, hs, h0, h1⟩ := h
    obtain ⟨its, rv, hl, _⟩ := I.list hs
    rw [Vals.ref1 rx]
    cases rz with
    | cons r1 r2 =>
      cases r2
      obtain ⟨as, hr⟩ := Dp.readsAll I _ _ its (dp_ints is) rv
      have hd : PyData.depthAll (is.map PyData.int) ≤ 0 := PySem.W.depthAll_map is
      refine PySem.W.max_list_default (I.ok.hd hc) hl.isList hr (PySem.W.alikeAll_datum is) (by omega) (fun e h' tk hk => ?_) (fun y ys i v h' tk bs e hi r hk => ?_)
      · exact ⟨d, H, I.kept hk, r1, h0 (List.map_eq_nil_iff.mp e)⟩
      · cases is with
        | nil => cases e
        | cons i is =>
          injection e with e1 e2
          subst e1
          subst e2
          rw [PySem.W.maxD_ints] at r
          cases r
          exact ⟨.int _, H, I.kept hk, ⟨_, rfl⟩, h1 i is rfl⟩
def rBestO (K : Fg) (mn : Bool) : List V → List V → Hp → VK → Prop := fun xs zs H Q => rBest K mn xs zs H Q ∨ (mn = true ∧ rMinDD K xs zs H Q)
theorem cr_bestO (hc : X.calm = true) (hu : X.A.units + 64 < cLine) (mn : Bool) : CallRK X (.builtin (if mn then "min" else "max")) ["default"] (rBestO X.K mn) := by
  intro pins s σ H xs zs us ws Q I rx rz h
  rcases h with h | ⟨rfl, h⟩
  · exact cr_best hc hu mn pins s σ H xs zs us ws Q I rx rz h
  · exact cr_minDD hc hu pins s σ H xs zs us ws Q I rx rz h
theorem mxdKey {mn : Bool} {a d : Xp} {x : Expr} {m : Md} (q : ck T m (.mxd mn a d) x = true) : ∃ n p y k z kp pos, x = .Call (.Name n p) [y] [⟨some k, z, kp⟩] pos ∧ n = (if mn then ("min" : Str) else "max") ∧ glB T.sc n = true ∧ ck T .lent a y = true ∧ notStar y = true ∧ k = ("default" : Str) ∧ ck T .val d z = true := by
  unfold ck at q
  split at q
  · simp only [Bool.and_eq_true, decide_eq_true_eq] at q
    obtain ⟨⟨⟨⟨⟨h1, h2⟩, h3⟩, h4⟩, h5⟩, h6⟩ := q
    exact ⟨_, _, _, _, _, _, _, rfl, h1, h2, h3, h4, h5, h6⟩
  · cases q
theorem pMxd {a d : Xp} (mn : Bool) (ha : PX C a) (hd : PX C d) : PX C (.mxd mn a d) := lift (fun {X T G x} g q => by
    obtain ⟨n, p, y, k, z, kp, pos, rfl, h1, h2, h3, h4, h5, h6⟩ := mxdKey q
    subst h5
    have hn : n ∈ blts := by rw [h1]; cases mn <;> decide
    have key : PE X (.Call (.Name n p) [y] [⟨some ("default" : Str), z, kp⟩] pos) (tCKw (rBestO X.K mn) (tCons (tB X.K G (ev C a)) tNil) (tCons (tE X.K G (ev C d)) tNil)) := by
      cases mn with
      | true =>
        subst h1
        exact pe_callBK (cr_bestO g.calm g.un true) (glOf g h2).1 (g.bl _ hn) (boot_bi .min) (pa_cons (ha.lent (G := G) g h3) pa_nil (star_cons h4)) (pk_cons (hd.val (G := G) g h6) pk_nil) (by decide) (by decide) (by rw [star_cons h4]; rfl) (by rw [star_cons h4]; rfl)
      | false =>
        subst h1
        exact pe_callBK (cr_bestO g.calm g.un false) (glOf g h2).1 (g.bl _ hn) (boot_bi .max) (pa_cons (ha.lent (G := G) g h3) pa_nil (star_cons h4)) (pk_cons (hd.val (G := G) g h6) pk_nil) (by decide) (by decide) (by rw [star_cons h4]; rfl) (by rw [star_cons h4]; rfl)
    refine peImp key fun σ H Q w => ?_
    obtain ⟨e, dr, m, hf, w⟩ := w
    obtain ⟨dx, k1, k2⟩ := Rs.bind_eq_ok (show (ev C a e).bind _ = .ok dr by simpa only [ev] using hf)
    obtain ⟨dz, k3, k4⟩ := Rs.bind_eq_ok k2
    refine ⟨e, dx, m, k1, fun v H1 s1 r1 => ⟨e, dz, m.up s1, k3, fun u H2 s2 r2 => ?_⟩⟩
    have m2 := m.up (s1.trans s2)
    cases dx <;> first | (cases k4; done) | skip
    have k4 : mxA mn _ dz = .ok dr := k4
    unfold mxA at k4
    split at k4
    · cases mn with
      | false => cases k4
      | true =>
        obtain ⟨b, xs, rfl, k7, k8⟩ := (r1.up s2).list m2
        exact .inr ⟨rfl, b, xs, _, _, dr, u, fun b => G.ban b ∨ Own e σ b, rfl, rfl, k7, k8, k4, fun v r => w v H2 (s1.trans s2) r⟩
    · obtain ⟨is, k5, k6⟩ := Rs.bind_eq_ok (show (intsD _).bind (fun is => bestD mn is dz) = .ok dr from k4)
      obtain ⟨b, xs, rfl, k7, k8⟩ := (r1.up s2).list m2
      have e1 := intsD_V k8 k5
      subst e1
      refine .inl ⟨b, is, u, rfl, rfl, k7, fun e2 => ?_, fun i js e2 => ?_⟩
      · subst e2
        cases k6
        exact w _ H2 (s1.trans s2) r2
      · subst e2
        cases k6
        exact w _ H2 (s1.trans s2) (.int _)) (fun _ x => by
      unfold ck
      rfl) (fun _ x => by
      unfold ck
      rfl) fun T x h => by
      obtain ⟨n, p, y, k, z, kp, pos, rfl, _⟩ := mxdKey h
      rfl

/-! ### methods of texts -/
theorem strsD_V {K : Fg} {F : Hp} : ∀ {xs : List V} {ds : List D} {is : List Str}, RpA K F xs ds → strsD ds = .ok is → xs = is.map V.str
  | _, _, is, .nil, h => by cases h; rfl
  | _, _, is, .cons (d := d) r q, h => by
    cases d <;> first | (cases h; done) | skip
    obtain ⟨js, h1, h2⟩ := Rs.bind_eq_ok (show (strsD _).bind _ = .ok is from h)
    cases h2
    cases r
    rw [List.map_cons, strsD_V q h1]
theorem rp_strs {K : Fg} {F : Hp} : ∀ ys : List Str, RpA K F (ys.map V.str) (ys.map PyData.str)
  | [] => .nil
  | y :: ys => .cons (.str y) (rp_strs ys)
theorem mt1Key {m1 : Mt} {o a : Xp} {x : Expr} {m : Md} (q : ck T m (.mt1 m1 o a) x = true) : ∃ p n ap y cp, x = .Call (.Attribute p n ap) [y] [] cp ∧ n = mtName m1 ∧ notCall p = true ∧ ck T .lent o p = true ∧ ck T .lent a y = true ∧ notStar y = true ∧ (ap.endLine == cp.line) = true := by
  unfold ck at q
  split at q
  · simp only [Bool.and_eq_true, decide_eq_true_eq] at q
    obtain ⟨⟨⟨⟨⟨h1, h2⟩, h3⟩, h4⟩, h5⟩, h6⟩ := q
    exact ⟨_, _, _, _, _, rfl, h1, h2, h3, h4, h5, h6⟩
  · cases q
theorem baseOf {p : Expr} {n : Str} {env : Env} {w : Sem Value} (h : notCall p = true) : attributeBase p n env w = w := by
  cases p <;> first | rfl | cases h
theorem joinOk {e : Vn} {σ : Stt} {H : Hp} {K : Fg} {a : Str} {v : V} {dx d : D} {Q : VK} (m : Mt' K G e σ H) (r : Rb K G e σ H v dx) (h : mtD .join (.str a) dx = .ok d) (q : ∀ v H', Same H H' → Rp K (Fz G e σ H') v d → Q v H') :
    ∃ a' p, ∃ ys : List Str, V.str a = .str a' ∧ [v] = [.ref p] ∧ (SqL K H p (ys.map V.str) ∨ SqT K H p (ys.map V.str)) ∧ (ys.map (·.length)).sum + ys.length * a'.length ≤ 16777216 ∧ Q (.str (Txt.join a' ys)) H := by
  have fin : ∀ {xs : List V} {ds : List D} {p : Addr}, v = .ref p → (SqL K H p xs ∨ SqT K H p xs) → RpA K (Fz G e σ H) xs ds → joinD a ds = .ok d → ∃ a' p, ∃ ys : List Str, V.str a = .str a' ∧ [v] = [.ref p] ∧ (SqL K H p (ys.map V.str) ∨ SqT K H p (ys.map V.str)) ∧ (ys.map (·.length)).sum + ys.length * a'.length ≤ 16777216 ∧ Q (.str (Txt.join a' ys)) H := fun {xs ds p} h1 h2 h3 h4 => by
    obtain ⟨ys, h5, h6⟩ := Rs.bind_eq_ok (show (strsD ds).bind _ = .ok d from h4)
    have e1 := strsD_V h3 h5
    subst e1
    subst h1
    split at h6
    · rename_i hz
      cases h6
      exact ⟨a, p, ys, rfl, rfl, h2, hz, q _ H (Same.refl H) (by rw [TL.join_eq]; exact .str _)⟩
    · cases h6
  cases dx <;> first | (cases h; done) | skip
  · obtain ⟨p, xs, h1, h2, h3⟩ := r.list m
    exact fin h1 (.inl h2) h3 h
  · obtain ⟨p, xs, h1, h2, h3⟩ := r.tup m
    exact fin h1 (.inr h2) h3 h
theorem pMt1 {o a : Xp} (m1 : Mt) (ho : PX C o) (ha : PX C a) : PX C (.mt1 m1 o a) := lift (fun {X T G x} g q => by
    obtain ⟨p, n, ap, y, cp, rfl, h1, h2, h3, h4, h5, h6⟩ := mt1Key q
    subst h1
    cases m1 with
    | join =>
      refine peImp (pe_join (ho.lent (G := G) g h3) (ha.lent (G := G) g h4) (star_cons h5) (baseOf h2) h6) fun σ H Q w => ?_
      obtain ⟨e, dr, m, hf, w⟩ := w
      obtain ⟨dx, k1, k2⟩ := Rs.bind_eq_ok (show (ev C o e).bind _ = .ok dr by simpa only [ev] using hf)
      obtain ⟨dz, k3, k4⟩ := Rs.bind_eq_ok k2
      refine ⟨e, dx, m, k1, fun v H1 s1 r1 => ?_⟩
      cases dx <;> first | (cases k4; done) | skip
      cases r1.str (m.up s1)
      exact ⟨⟨_, rfl⟩, e, dz, m.up s1, k3, fun u H2 s2 r2 => joinOk (m.up (s1.trans s2)) r2 k4 fun v' H' s' r' => w v' H' ((s1.trans s2).trans s') r'⟩
    | split =>
      refine peImp (pe_split (ho.lent (G := G) g h3) (ha.lent (G := G) g h4) (star_cons h5) (baseOf h2) h6) fun σ H Q w => ?_
      obtain ⟨e, dr, m, hf, w⟩ := w
      obtain ⟨dx, k1, k2⟩ := Rs.bind_eq_ok (show (ev C o e).bind _ = .ok dr by simpa only [ev] using hf)
      obtain ⟨dz, k3, k4⟩ := Rs.bind_eq_ok k2
      refine ⟨e, dx, m, k1, fun v H1 s1 r1 => ?_⟩
      cases dx <;> first | (cases k4; done) | skip
      cases dz <;> first | (cases k4; done) | skip
      cases r1.str (m.up s1)
      refine ⟨⟨_, rfl⟩, e, _, m.up s1, k3, fun u H2 s2 r2 => ?_⟩
      have m2 := m.up (s1.trans s2)
      cases r2.str m2
      simp only [mtD] at k4
      split at k4
      · rename_i hz
        cases k4
        simp only [Bool.and_eq_true, Bool.not_eq_true', decide_eq_true_eq] at hz
        exact ⟨_, _, rfl, rfl, hz.1, by rw [sl16]; exact hz.2, fun p hp => w _ _ ((s1.trans s2).trans (same_new hp)) (new_lst m2 hp (rp_strs _))⟩
      · cases k4) (fun _ x => by
      unfold ck
      rfl) (fun _ x => by
      unfold ck
      rfl) fun T x h => by
      obtain ⟨p, n, ap, y, cp, rfl, _⟩ := mt1Key h
      rfl

/-! ### a call that only looks: what is owned is lent to it, and it tells a plain value -/
mutual
theorem flat_up {K : Fg} {F F' : Hp} (hF : ∀ a o, F a = some o → (∀ xs, o = .tup xs → F' a = some o) ∧ ∀ ob xs, o = .frz ob (.tup xs) → F' a = some o) : ∀ (d : D) (v : V), flatB d = true → Rp K F v d → Rp K F' v d
  | .none, _, _, r => by cases r; exact .non
  | .bool _, _, _, r => by cases r; exact .bl _
  | .int _, _, _, r => by cases r; exact .int _
  | .str _, _, _, r => by cases r; exact .str _
  | .tuple xs, _, h, r => by
    cases r with
    | tup h1 h2 =>
      refine .tup ?_ (flat_ups hF xs _ (by simpa [flatB] using h) h2)
      rcases h1 with (h1 | ⟨o, h1⟩) | h1
      · exact .inl (.inl ((hF _ _ h1).1 _ rfl))
      · exact .inl (.inr ⟨o, (hF _ _ h1).2 _ _ rfl⟩)
      · exact .inr h1
  | .list _, _, h, _ => by simp [flatB] at h
  | .dict _, _, h, _ => by simp [flatB] at h
theorem flat_ups {K : Fg} {F F' : Hp} (hF : ∀ a o, F a = some o → (∀ xs, o = .tup xs → F' a = some o) ∧ ∀ ob xs, o = .frz ob (.tup xs) → F' a = some o) : ∀ (ds : List D) (vs : List V), flatBs ds = true → RpA K F vs ds → RpA K F' vs ds
  | [], _, _, r => by cases r; exact .nil
  | d :: ds, _, h, r => by
    cases r with
    | cons r1 r2 =>
      simp only [flatBs, Bool.and_eq_true] at h
      exact .cons (flat_up hF d _ h.1 r1) (flat_ups hF ds _ h.2 r2)
end
theorem flat_rp {K : Fg} {e : Vn} {σ : Stt} {H : Hp} {v : V} {d d2 : D} (m : Mt' K G e σ H) (h : flatD d = .ok d2) (r : Rp K (cutH G.ban H) v d) : d2 = d ∧ Rp K (Fz G e σ H) v d := by
  unfold flatD at h
  split at h
  · rename_i hz
    cases h
    refine ⟨rfl, flat_up (fun a o ha => ?_) d v hz r⟩
    obtain ⟨h1, h2⟩ := cutH_some.mp ha
    have key : (∀ xs, o ≠ .lst xs) → (∀ xs, o ≠ .dK xs) → (∀ xs, o ≠ .dT xs) → Fz G e σ H a = some o := fun k1 k2 k3 => cutH_some.mpr ⟨fun z => by
      rcases z with z | ⟨i, d', z1, z2⟩
      · exact h1 z
      · obtain ⟨a', z3, _, _, z4⟩ := m.own i d' z1
        rw [z2] at z3
        cases z3
        cases z4 with
        | lst z _ => rw [h2] at z; exact k1 _ (Option.some.inj z)
        | dK z _ => rw [h2] at z; exact k2 _ (Option.some.inj z)
        | dT z _ => rw [h2] at z; exact k3 _ (Option.some.inj z), h2⟩
    exact ⟨fun xs z => key (fun _ q => by rw [z] at q; cases q) (fun _ q => by rw [z] at q; cases q) (fun _ q => by rw [z] at q; cases q), fun ob xs z => key (fun _ q => by rw [z] at q; cases q) (fun _ q => by rw [z] at q; cases q) (fun _ q => by rw [z] at q; cases q)⟩
  · cases h
theorem lentRp {e : Vn} {σ : Stt} {H : Hp} {K : Fg} (m : Mt' K G e σ H) : ∀ {vs : List V} {ds : List D}, ds.all nd = true → RbA K G e σ H vs ds → RpA K (cutH G.ban H) vs ds
  | _, _, _, .nil => .nil
  | _, _, hn, .cons r q => .cons (by
    have s : Same (Fz G e σ H) (cutH G.ban H) := cutH_same (fun b h => .inl (.inl h)) (Same.refl H)
    rcases r with r | ⟨i, h1, h2⟩
    · exact r.up s
    · obtain ⟨a, h3, _, h5, h4⟩ := m.own i _ h1
      rw [h2] at h3
      cases h3
      exact h4.rp (by rw [List.all_cons, Bool.and_eq_true] at hn; exact hn.1) (fun o z => .inl (cutH_some.mpr ⟨h5, z⟩)) s) (lentRp m (by rw [List.all_cons, Bool.and_eq_true] at hn; exact hn.2) q)
theorem pCallL {as : Xps} (j : Nat) (h : PXs C as) : PX C (.callL j as) := lift (fun {X T G x} g q => by
    cases x <;> first | (cases q; done) | skip
    rename_i fn ys kw pos
    cases fn <;> first | (cases q; done) | skip
    rename_i n p
    cases kw with
    | cons _ _ => cases q
    | nil =>
      simp only [ck, Bool.and_eq_true, decide_eq_true_eq] at q
      obtain ⟨⟨⟨h2, h3⟩, h4⟩, h5⟩ := q
      obtain ⟨k, fa, fd, ps, k1, k2, k3, k4, k5⟩ := (g.fn j n ys.length h3).ex
      cases ys with
      | nil =>
        refine ⟨fun pins s σ H Q I w => (pe_call0 k3 (k4.mono (Nat.le_add_right k _)) (glOf g h2).1 k1 k2 k5 .nil pass0 (glOf g h2).2).run pins s σ H Q I ?_⟩
        obtain ⟨e, d, m, hf, w⟩ := w
        obtain ⟨ds, h6, h7⟩ := Rs.bind_eq_ok (show (evs C as e).bind _ = .ok d by simpa only [ev] using hf)
        have hnd : ds.all nd = true ∧ (C.fn j ds).bind flatD = .ok d := by
          by_cases z : ds.all nd = true
          · rw [if_pos z] at h7; exact ⟨z, h7⟩
          · rw [if_neg z] at h7; cases h7
        obtain ⟨d1, h8, h9⟩ := Rs.bind_eq_ok hnd.2
        have e0 := evs_len h4 h6
        cases ds with
        | cons _ _ => cases e0
        | nil => exact ⟨rfl, m.tab, G.ban, [], d1, m.ban, .nil, h8, fun v H' s' r' => by
          obtain ⟨rfl, r2⟩ := flat_rp (m.up s') h9 r'
          exact w v H' s' r2⟩
      | cons y ys =>
        simp only [List.all_cons, Bool.and_eq_true] at h5
        refine peImp (pe_call k3 (k4.mono (Nat.le_add_right k _)) (glOf g h2).1 k1 k2 k5 .nil pass0 (h.lent (G := G) g h4 (by simp only [List.all_cons, Bool.and_eq_true]; exact h5)) (glOf g h2).2 (star_cons h5.1) (star_all h5.2)) fun σ H Q w => ?_
        obtain ⟨e, d, m, hf, w⟩ := w
        obtain ⟨ds, h6, h7⟩ := Rs.bind_eq_ok (show (evs C as e).bind _ = .ok d by simpa only [ev] using hf)
        have hnd : ds.all nd = true ∧ (C.fn j ds).bind flatD = .ok d := by
          by_cases z : ds.all nd = true
          · rw [if_pos z] at h7; exact ⟨z, h7⟩
          · rw [if_neg z] at h7; cases h7
        obtain ⟨d1, h8, h9⟩ := Rs.bind_eq_ok hnd.2
        refine ⟨e, ds, m, h6, fun vs H1 s1 r1 => ?_⟩
        have m1 := m.up s1
        have r2 := lentRp m1 hnd.1 r1
        refine ⟨by rw [List.append_nil, r2.len, evs_len h4 h6], m1.tab, G.ban, ds, d1, m1.ban, by rw [List.append_nil]; exact r2, h8, fun v H' s' r' => ?_⟩
        obtain ⟨rfl, r3⟩ := flat_rp (m1.up s') h9 r'
        exact w v H' (s1.trans s') r3)
  (fun _ x => by cases x <;> rfl) (fun _ x => by cases x <;> rfl) fun _ x h => by cases x <;> first | rfl | cases h
end
end Bk
/-! E10c: the whole backwards, of a list or a tuple. -/
namespace Bk
open PySem PySem.Spec PyProof.Rows L2
theorem back_pick (xs : Array Value) : ((List.range xs.size).filterMap fun (m : Nat) => xs[(((xs.size : Int) - 1) + (m : Int) * (-1)).toNat]?).toArray = xs.toList.reverse.toArray := by
  have e : (fun (m : Nat) => xs[(((xs.size : Int) - 1) + (m : Int) * (-1)).toNat]?) = (fun k : Nat => xs[k]?) ∘ fun k => xs.size - 1 - k := by
    funext m
    have : (((xs.size : Int) - 1) + (m : Int) * (-1)).toNat = xs.size - 1 - m := by omega
    rw [this]
    rfl
  rw [e, ← List.filterMap_map, PySem.W.krv_range, List.filterMap_reverse, PySem.W.krv_all]
section
variable {prog : Program} {w : World} {A : Around} {E : Value → Shared → Prop} {s : Shared}
theorem sliceApplied_back {sl : Addr} {vl vu vs : Value} {n : Nat} {Q : Int × Int × Nat → Shared → Prop} (hs : s.heap.IsSliceOf sl vl vu vs) (pl : IsPart vl none) (pu : IsPart vu none) (ps : IsPart vs (some (-1)))
    (h : Q ((n : Int) - 1, -1, n) s) : wpAny (model prog w) A (Builtin.Slice.sliceApplied (.ref sl) (pure (n : Int))) Q E s := by
  obtain ⟨os, hos, hcs, hds⟩ := id hs
  unfold Builtin.Slice.sliceApplied Builtin.Slice.sliceFields
  refine wpAny_bind (wpAny_bind (wpAny_field hos hds (x := vl) rfl (wpAny_bind (wpAny_field hos hds (x := vu) rfl (wpAny_bind (wpAny_field hos hds (x := vs) rfl (wpAny_pure ?_)))))))
  refine wpAny_bind (HT.slicePart_ ps ?_)
  show wpAny _ _ (if ((-1 : Int) == 0) = true then _ else _) _ _ s
  rw [if_neg (by decide)]
  refine wpAny_bind (HT.slicePart_ pl (wpAny_bind (HT.slicePart_ pu (wpAny_bind (wpAny_pure ?_)))))
  have e1 : Builtin.Slice.sliceAdjust none none (-1) (n : Int) = ((n : Int) - 1, -1) := by
    unfold Builtin.Slice.sliceAdjust
    simp
  have e2 : Builtin.Slice.slicePlaces ((n : Int) - 1) (-1) (-1) = n := by
    unfold Builtin.Slice.slicePlaces
    simp
    omega
  show wpAny _ _ (match Builtin.Slice.sliceAdjust none none (-1) (n : Int) with | (lo, hi) => pure (lo, (-1 : Int), Builtin.Slice.slicePlaces lo hi (-1))) _ _ s
  rw [e1]
  show wpAny _ _ (pure ((n : Int) - 1, (-1 : Int), Builtin.Slice.slicePlaces ((n : Int) - 1) (-1) (-1))) _ _ s
  rw [e2]
  exact wpAny_pure h
theorem getItem_tuple_back {t sl : Addr} {items : Array Value} {vl vu vs : Value} {Q : Value → Shared → Prop} (ht : IsTup s.heap t items) (hs : s.heap.IsSliceOf sl vl vu vs) (pl : IsPart vl none) (pu : IsPart vu none) (ps : IsPart vs (some (-1)))
    (h : Q (.ref s.heap.objs.size) { s with heap := s.heap.push { cls := .type "tuple", data := .seq items.toList.reverse.toArray } })
    (hsz : items.size ≤ sizeLine) : wpAny (model prog w) A (getItem (.ref t) (.ref sl)) Q E s := by
  have htake : sizeOk (.seq items.toList.reverse.toArray) := by
    show items.toList.reverse.toArray.size ≤ sizeLine
    simpa using hsz
  obtain ⟨os, hos, hcs, hds⟩ := id hs
  have hTs : s.TypeIs (.ref sl) "slice" := ⟨os, hos, hcs⟩
  unfold getItem
  try with_reducible refine wpAny_holding ?_
  first | refine wpAny_bind (wpAny_pure ?_) | skip
  refine wpAny_bind (wpAny_sequenceKey ht.typeIs (by decide) ?_)
  refine wpAny_bind (wpAny_callSpecial?_slot (name := Str.ofString "__getitem__") ht.typeIs PyProof.Rows.slot_tuple_getitem
    (wpAny_call_entry PyProof.Rows.slot_tuple_getitem ht.typeIs PyProof.Rows.entry_tuple_getitem ?_ (PyProof.Rows.args_tuple_getitem _ _)))
  show wpAny _ _ (Builtin.Tuple.tupleItemsOf (.ref t) >>= _) _ _ s
  refine wpAny_bind (tupleItemsOf_ ht ?_)
  refine wpAny_bind (wpAny_typeOf hTs ?_)
  rw [if_pos (by decide)]
  refine wpAny_bind (sliceApplied_back hs pl pu ps ?_)
  have hno : ¬ ((((items.size : Int) - 1) == 0 && (-1 : Int) == 1 && items.size == items.size) = true) := by simp
  show wpAny _ _ (if (((items.size : Int) - 1) == 0 && (-1 : Int) == 1 && items.size == items.size) = true then _ else _) _ _ s
  rw [if_neg hno, back_pick]
  first
    | exact wpAny_bind (m := Builtin.Tuple.tupleExact _) (wpAny_newObj_type (wpAny_pure ⟨_, rfl, wpAny_pure h⟩) htake)
    | exact wpAny_bind (m := Builtin.Tuple.tupleExact _) (wpAny_newObj_type (wpAny_bind (wpAny_pure (wpAny_pure ⟨_, rfl, wpAny_pure h⟩))) htake)
    | exact wpAny_bind (wpAny_bind (m := Builtin.Tuple.tupleExact _) (wpAny_newObj_type (wpAny_pure (wpAny_pure ⟨_, rfl, wpAny_pure h⟩)) htake))
    | exact wpAny_bind (wpAny_bind (m := Builtin.Tuple.tupleExact _) (wpAny_newObj_type (wpAny_pure ⟨_, rfl, wpAny_pure h⟩) htake))
end
def tRev (K : Fg) (te : TE) : TE := fun σ H Q => te σ H fun x H1 => ∃ a xs, x = .ref a ∧ ((SqL K H1 a xs ∧ ∀ p, H1 p = none → Q (.ref p) (upd H1 p (.lst xs.reverse))) ∨ (SqT K H1 a xs ∧ ∀ p, H1 p = none → Q (.ref p) (upd H1 p (.tup xs.reverse))))
theorem pe_rev {X : Cx} {e : Expr} {te : TE} {k : Nat} {p1 p2 p3 pos : Pos} (he : PE X e te) : PE X (.Subscript e (.Slice none none (some (.UnaryOp .USub (.Constant (.int 1) k p1) p2)) p3) pos) (tRev X.K te) := by
  refine ⟨fun pins s σ H Q I h => ?_⟩
  refine Subscript_ (thn (he.run pins s σ H _ I h) fun v s1 ⟨x, H1, I1, r1, q1⟩ => ?_)
  obtain ⟨a, xs, rfl, q1⟩ := q1
  cases r1
  have hst : PO X (some (.UnaryOp .USub (.Constant (.int 1) k p1) p2)) (tPart (tUn (rU fun i => .int (-i)) (tC (.int 1)))) := po_some (pe_un un_neg pe_int)
  refine wpAny_Slice (thn (po_none.run pins s1 σ H1 (fun o H2 => o = none ∧ H2 = H1) I1 ⟨rfl, rfl⟩) fun vl s2 ⟨l, H2, I2, pl, el, e2⟩ => ?_)
  subst el e2
  refine thn (po_none.run pins s2 σ H2 (fun o H3 => o = none ∧ H3 = H2) I2 ⟨rfl, rfl⟩) fun vu s3 ⟨u, H3, I3, pu, eu, e3⟩ => ?_
  subst eu e3
  refine thn (hst.run pins s3 σ H3 (fun o H4 => o = some (-1) ∧ H4 = H3) I3 ⟨1, rfl, -1, rfl, rfl, rfl⟩) fun vs s4 ⟨o, H4, I4, ps, eo, e4⟩ => ?_
  subst eo e4
  have I5 : Inv X pins σ H4 { s4 with heap := s4.heap.push { cls := .type "slice", data := .fields #[vl, vu, vs] } } := I4.kept (t' := s4.toks) fun b ob q => Heap.get?_push_of_some _ q
  rcases q1 with ⟨hx, q⟩ | ⟨hx, q⟩
  · obtain ⟨its, r, ht, hz⟩ := I5.list hx
    have hlen := r.length
    show wpAny (model X.prog X.w) X.A (subscriptTail e (.Slice none none (some (.UnaryOp .USub (.Constant (.int 1) k p1) p2)) p3) (.ref a) (.ref s4.heap.objs.size)) (EP X pins σ Q) X.xe { s4 with heap := s4.heap.push { cls := .type "slice", data := .fields #[vl, vu, vs] } }
    refine tail_any (ops := [.ref a, .ref s4.heap.objs.size]) ht.isList.typeIs (PySem.slot_list_getitem.lookup) ?_ (by with_unfolding_all rfl)
    refine wpAny_getItem_list_slice ht.isList (Heap.IsSliceOf.new _ vl vu vs) pl pu ps (by decide) ?_ (by rw [List.size_toArray]; omega)
    rw [PySem.W.krv_pick]
    refine ⟨.ref _, _, I5.laid (t' := s4.toks) (o := .lst xs.reverse) (fun b ob q => Heap.get?_push_of_some _ q) (Nat.le_refl _) ?_, rfl, q _ (I5.hok.fresh (Nat.le_refl _))⟩
    exact ⟨by rw [List.length_reverse]; exact hz, _, 0, r.reverse, Heap.get?_push_size _ rfl⟩
  · obtain ⟨its, r, ht, hz⟩ := I5.tuple hx
    have hlen := r.length
    show wpAny (model X.prog X.w) X.A (subscriptTail e (.Slice none none (some (.UnaryOp .USub (.Constant (.int 1) k p1) p2)) p3) (.ref a) (.ref s4.heap.objs.size)) (EP X pins σ Q) X.xe { s4 with heap := s4.heap.push { cls := .type "slice", data := .fields #[vl, vu, vs] } }
    refine tail_any (ops := [.ref a, .ref s4.heap.objs.size]) ht.typeIs PyProof.Rows.slot_tuple_getitem.lookup ?_ (by with_unfolding_all rfl)
    refine getItem_tuple_back ht (Heap.IsSliceOf.new _ vl vu vs) pl pu ps ?_ (by rw [List.size_toArray]; omega)
    refine ⟨.ref _, _, I5.laid (t' := s4.toks) (o := .tup xs.reverse) (fun b ob q => Heap.get?_push_of_some _ q) (Nat.le_refl _) ?_, rfl, q _ (I5.hok.fresh (Nat.le_refl _))⟩
    exact ⟨by rw [List.length_reverse]; exact hz, _, r.reverse, IsTup.new _ _⟩
theorem revKey {T : Tb} {a : Xp} {x : Expr} {m : Md} (q : ck T m (.rev a) x = true) : ∃ e k p1 p2 p3 pos, x = .Subscript e (.Slice none none (some (.UnaryOp .USub (.Constant (.int 1) k p1) p2)) p3) pos ∧ ck T .lent a e = true := by
  unfold ck at q
  split at q
  · rename_i i
    simp only [Bool.and_eq_true, decide_eq_true_eq] at q
    obtain ⟨rfl, q⟩ := q
    exact ⟨_, _, _, _, _, _, rfl, q⟩
  · cases q
theorem pRev {C : Cn} {a : Xp} (ha : PX C a) : PX C (.rev a) := lift (fun {X T G x} g q => by
    obtain ⟨e, k, p1, p2, p3, pos, rfl, h1⟩ := revKey q
    refine peImp (pe_rev (ha.lent (G := G) g h1)) fun σ H Q w => ?_
    obtain ⟨e, d, m, hf, w⟩ := w
    obtain ⟨dx, h1, h2⟩ := Rs.bind_eq_ok (show (ev C a e).bind _ = .ok d by simpa only [ev] using hf)
    refine ⟨e, dx, m, h1, fun v H1 s1 r1 => ?_⟩
    have m1 := m.up s1
    cases dx <;> first | (cases h2; done) | skip
    · cases h2
      obtain ⟨b, xs, rfl, h3, h4⟩ := r1.list m1
      exact ⟨b, xs, rfl, .inl ⟨h3, fun p hp => w _ _ (s1.trans (same_new hp)) (new_lst m1 hp h4.rev)⟩⟩
    · cases h2
      obtain ⟨b, xs, rfl, h3, h4⟩ := r1.tup m1
      exact ⟨b, xs, rfl, .inr ⟨h3, fun p hp => w _ _ (s1.trans (same_new hp)) (new_tup m1 hp h4.rev)⟩⟩) (fun _ x => by
      unfold ck
      rfl) (fun _ x => by
      unfold ck
      rfl) fun T x h => by
      obtain ⟨e, k, p1, p2, p3, pos, rfl, _⟩ := revKey h
      rfl
end Bk
/-! E10d: dicts. -/
namespace Bk
open PySem PySem.Spec PyProof.Rows L2
theorem eqv_k (a b : Key) : PyData.eqv (kD a) (kD b) = decide (a = b) := by
  cases a with
  | inl i => cases b with
    | inl j => by_cases h : i = j <;> simp [kD, PyData.eqv, h]
    | inr y => simp [kD, PyData.eqv]
  | inr x => cases b with
    | inl j => simp [kD, PyData.eqv]
    | inr y => by_cases h : x = y <;> simp [kD, PyData.eqv, h]
theorem eqv_kA : ∀ a b : List Key, PyData.eqvAll (a.map kD) (b.map kD) = decide (a = b)
  | [], [] => by simp [PyData.eqvAll]
  | [], _ :: _ => by simp [PyData.eqvAll]
  | _ :: _, [] => by simp [PyData.eqvAll]
  | x :: a, y :: b => by
    rw [List.map_cons, List.map_cons, PyData.eqvAll, eqv_k, eqv_kA a b]
    by_cases h : x = y <;> by_cases h2 : a = b <;> simp [h, h2]
theorem eqv_kt (a b : List Key) : PyData.eqv (.tuple (a.map kD)) (.tuple (b.map kD)) = decide (a = b) := by
  rw [PyData.eqv, eqv_kA]
theorem isK_key {d : D} (h : isK d = true) : ∃ k, d = kD k := by
  cases d <;> first | (cases h; done) | skip
  · exact ⟨.inl _, rfl⟩
  · exact ⟨.inr _, rfl⟩
theorem isK_all : ∀ {xs : List D}, xs.all isK = true → ∃ ks : List Key, xs = ks.map kD
  | [], _ => ⟨[], rfl⟩
  | x :: xs, h => by
    simp only [List.all_cons, Bool.and_eq_true] at h
    obtain ⟨k, rfl⟩ := isK_key h.1
    obtain ⟨ks, rfl⟩ := isK_all h.2
    exact ⟨k :: ks, rfl⟩
theorem isKT_key {d : D} (h : isKT d = true) : ∃ ks : List Key, d = .tuple (ks.map kD) := by
  cases d <;> first | (cases h; done) | skip
  obtain ⟨ks, rfl⟩ := isK_all (show _ = true from h)
  exact ⟨ks, rfl⟩
theorem rp_key {K : Fg} {F : Hp} {v : V} : ∀ {k : Key}, Rp K F v (kD k) → v = kV k
  | .inl i, r => by cases r; rfl
  | .inr x, r => by cases r; rfl
theorem rpA_keys {K : Fg} {F : Hp} : ∀ {ks : List Key} {vs : List V}, RpA K F vs (ks.map kD) → vs = ks.map kV
  | [], _, r => by cases r; rfl
  | k :: ks, _, r => by
    cases r with
    | cons r1 r2 => rw [List.map_cons, rp_key r1, rpA_keys r2]
theorem dLook_cons (q d : D) (ps : List (D × D)) (k : D) : dLook ((q, d) :: ps) k = if PyData.eqv q k then some d else dLook ps k := by
  unfold dLook
  rw [List.find?_cons]
  cases PyData.eqv q k <;> rfl
theorem look_k {K : Fg} {F : Hp} (k : Key) : ∀ {kvs : List (Key × V)} {ps : List (D × D)}, RpK K F kvs ps → (∀ d, dLook ps (kD k) = some d → ∃ v, valV kvs k = some v ∧ Rp K F v d) ∧ (dLook ps (kD k) = none → valV kvs k = none)
  | _, _, .nil => ⟨fun d h => (by cases h), fun _ => rfl⟩
  | _, _, .cons (k := q) (v := v) (d := d0) r rs => by
    obtain ⟨h1, h2⟩ := look_k k rs
    rw [dLook_cons, eqv_k]
    by_cases e : q = k
    · rw [valV_pos (p := (q, v)) e]
      simp only [e, decide_true, if_true]
      exact ⟨fun d h => ⟨v, rfl, by cases h; exact r⟩, fun h => (by cases h)⟩
    · rw [valV_neg (p := (q, v)) e]
      simp only [e, decide_false, Bool.false_eq_true, if_false]
      exact ⟨h1, h2⟩
theorem look_t {K : Fg} {F : Hp} (k : List Key) : ∀ {kvs : List (List Key × V)} {ps : List (D × D)}, RpT K F kvs ps → (∀ d, dLook ps (.tuple (k.map kD)) = some d → ∃ v, valV kvs k = some v ∧ Rp K F v d) ∧ (dLook ps (.tuple (k.map kD)) = none → valV kvs k = none)
  | _, _, .nil => ⟨fun d h => (by cases h), fun _ => rfl⟩
  | _, _, .cons (k := q) (v := v) (d := d0) r rs => by
    obtain ⟨h1, h2⟩ := look_t k rs
    rw [dLook_cons, eqv_kt]
    by_cases e : q = k
    · rw [valV_pos (p := (q, v)) e]
      simp only [e, decide_true, if_true]
      exact ⟨fun d h => ⟨v, rfl, by cases h; exact r⟩, fun h => (by cases h)⟩
    · rw [valV_neg (p := (q, v)) e]
      simp only [e, decide_false, Bool.false_eq_true, if_false]
      exact ⟨h1, h2⟩
theorem any_k {K : Fg} {F : Hp} (k : Key) : ∀ {kvs : List (Key × V)} {ps : List (D × D)}, RpK K F kvs ps → ps.any (fun p => PyData.eqv p.1 (kD k)) = kvs.any fun kv => decide (kv.1 = k)
  | _, _, .nil => rfl
  | _, _, .cons (k := q) r rs => by
    rw [List.any_cons, List.any_cons, any_k k rs, eqv_k]
theorem any_t {K : Fg} {F : Hp} (k : List Key) : ∀ {kvs : List (List Key × V)} {ps : List (D × D)}, RpT K F kvs ps → ps.any (fun p => PyData.eqv p.1 (.tuple (k.map kD))) = kvs.any fun kv => decide (kv.1 = k)
  | _, _, .nil => rfl
  | _, _, .cons (k := q) r rs => by
    rw [List.any_cons, List.any_cons, any_t k rs, eqv_kt]
theorem repl_k {K : Fg} {F : Hp} (k : Key) {v : V} {d : D} (hv : Rp K F v d) : ∀ {kvs : List (Key × V)} {ps : List (D × D)}, RpK K F kvs ps → RpK K F (kvs.map fun kv => if kv.1 = k then (kv.1, v) else kv) (ps.map fun p => if PyData.eqv p.1 (kD k) then (p.1, d) else p)
  | _, _, .nil => .nil
  | _, _, .cons (k := q) r rs => by
    rw [List.map_cons, List.map_cons, eqv_k]
    by_cases e : q = k
    · simp only [e, decide_true, if_true]
      exact .cons hv (repl_k k hv rs)
    · simp only [e, decide_false, Bool.false_eq_true, if_false]
      exact .cons r (repl_k k hv rs)
theorem repl_t {K : Fg} {F : Hp} (k : List Key) {v : V} {d : D} (hv : Rp K F v d) : ∀ {kvs : List (List Key × V)} {ps : List (D × D)}, RpT K F kvs ps → RpT K F (kvs.map fun kv => if kv.1 = k then (kv.1, v) else kv) (ps.map fun p => if PyData.eqv p.1 (.tuple (k.map kD)) then (p.1, d) else p)
  | _, _, .nil => .nil
  | _, _, .cons (k := q) r rs => by
    rw [List.map_cons, List.map_cons, eqv_kt]
    by_cases e : q = k
    · simp only [e, decide_true, if_true]
      exact .cons hv (repl_t k hv rs)
    · simp only [e, decide_false, Bool.false_eq_true, if_false]
      exact .cons r (repl_t k hv rs)
theorem snoc_k {K : Fg} {F : Hp} (k : Key) {v : V} {d : D} (hv : Rp K F v d) : ∀ {kvs : List (Key × V)} {ps : List (D × D)}, RpK K F kvs ps → RpK K F (kvs ++ [(k, v)]) (ps ++ [(kD k, d)])
  | _, _, .nil => .cons hv .nil
  | _, _, .cons r rs => .cons r (snoc_k k hv rs)
theorem snoc_t {K : Fg} {F : Hp} (k : List Key) {v : V} {d : D} (hv : Rp K F v d) : ∀ {kvs : List (List Key × V)} {ps : List (D × D)}, RpT K F kvs ps → RpT K F (kvs ++ [(k, v)]) (ps ++ [(.tuple (k.map kD), d)])
  | _, _, .nil => .cons hv .nil
  | _, _, .cons r rs => .cons r (snoc_t k hv rs)
theorem set_k {K : Fg} {F : Hp} (k : Key) {v : V} {d : D} (hv : Rp K F v d) {kvs : List (Key × V)} {ps : List (D × D)} (r : RpK K F kvs ps) : RpK K F (putK kvs k v) (dSet ps (kD k) d) := by
  unfold putK dSet
  rw [any_k k r]
  split
  · exact repl_k k hv r
  · exact snoc_k k hv r
theorem set_t {K : Fg} {F : Hp} (k : List Key) {v : V} {d : D} (hv : Rp K F v d) {kvs : List (List Key × V)} {ps : List (D × D)} (r : RpT K F kvs ps) : RpT K F (putK kvs k v) (dSet ps (.tuple (k.map kD)) d) := by
  unfold putK dSet
  rw [any_t k r]
  split
  · exact repl_t k hv r
  · exact snoc_t k hv r
theorem rpK_len {K : Fg} {F : Hp} : ∀ {kvs : List (Key × V)} {ps : List (D × D)}, RpK K F kvs ps → kvs.length = ps.length
  | _, _, .nil => rfl
  | _, _, .cons _ r => congrArg (· + 1) (rpK_len r)
theorem rpT_len {K : Fg} {F : Hp} : ∀ {kvs : List (List Key × V)} {ps : List (D × D)}, RpT K F kvs ps → kvs.length = ps.length
  | _, _, .nil => rfl
  | _, _, .cons _ r => congrArg (· + 1) (rpT_len r)

/-! ### over the heap -/
section
variable {X : Cx} {pins : List (Addr × Obj)} {σ : L2.St} {H : Hp} {s : Shared} {a : Addr} {y v : V} {u r : Value} {o : Option V} {A : Around} {E : Value → Shared → Prop}
theorem key_ofS {b : Addr} {ks : List Key} (I : Inv X pins σ H s) (h : SqT X.K H b (ks.map kV)) : (tupleKind (mixKind X.prog X.w)).is s.heap ks b := by
  obtain ⟨its, r, ⟨o, h1, h2, n, h3⟩, _⟩ := I.tuple h
  exact ⟨o, its.toArray, n, h1, h2, h3, by simpa using items_are r⟩
def DGetS (K : Fg) (H : Hp) (a : Addr) (y : V) (r : Option V) : Prop :=
  (∃ kvs k, Rd H a (.dK kvs) ∧ y = kV k ∧ r = valV kvs k) ∨ ∃ kvs k b, Rd H a (.dT kvs) ∧ y = .ref b ∧ SqT K H b (k.map kV) ∧ r = valV kvs k
theorem dS_typeIs (I : Inv X pins σ H s) (g : DGetS X.K H a y o) : s.TypeIs (.ref a) "dict" := by
  rcases g with ⟨kvs, k, e, _, _⟩ | ⟨kvs, k, b, e, _, _, _⟩
  · obtain ⟨_, _, vs, _, dd⟩ := dk_rd I.hok e
    exact dd.typeIs
  · obtain ⟨_, _, xs, _, dd⟩ := dt_rd I.hok e
    exact dd.typeIs
theorem dS_getItem {Q : Value → Shared → Prop} (hu : A.units + 1 < cLine) (I : Inv X pins σ H s) (g : DGetS X.K H a y (some v)) (ry : RelV y u) (h : ∀ w' s', Inv X pins σ H s' → RelV v w' → Q w' s') :
    wpAny (model X.prog X.w) A (getItem (.ref a) u) Q E s := by
  rcases g with ⟨kvs, k, e, ey, l⟩ | ⟨kvs, k, b, e, ey, eb, l⟩
  · exact d_getItem hu I (.inl ⟨kvs, k, e, ey, l⟩) ry h
  · subst ey
    cases (show u = Value.ref b from ry)
    obtain ⟨z, hd, xs, rel, dd⟩ := dt_rd I.hok e
    obtain ⟨w', hw, rw'⟩ := RelO.some_of (v := v) (o := (atKey xs k).map (·.2)) (by rw [l]; exact rel.val k)
    obtain ⟨p, hp, hp2⟩ := Option.map_eq_some_iff.mp hw
    refine wpAny_getItem_heap (tupleKind_room_in1 hu) (key_ofS I eb) dd hp ?_
    rw [hp2]
    exact h w' _ (I.tok _) rw'
theorem dS_in {Q : Value → Shared → Prop} (hu : A.units + 1 < cLine) (I : Inv X pins σ H s) (g : DGetS X.K H a y o) (ry : RelV y u) (h : ∀ s', Inv X pins σ H s' → Q (.bool o.isSome) s') :
    wpAny (model X.prog X.w) A (compareOp .In u (.ref a)) Q E s := by
  rcases g with ⟨kvs, k, e, ey, l⟩ | ⟨kvs, k, b, e, ey, eb, l⟩
  · exact d_in hu I (.inl ⟨kvs, k, e, ey, l⟩) ry h
  · subst ey
    cases (show u = Value.ref b from ry)
    obtain ⟨z, hd, xs, rel, dd⟩ := dt_rd I.hok e
    refine wpAny_in_heap (tupleKind_room_in1 hu) (key_ofS I eb) hd dd ?_
    have q := (rel.val k).isSome_eq
    rw [Option.isSome_map] at q
    rw [← q, ← l]
    exact h _ (I.tok _)
theorem dS_notIn {Q : Value → Shared → Prop} (hu : A.units + 1 < cLine) (I : Inv X pins σ H s) (g : DGetS X.K H a y o) (ry : RelV y u) (h : ∀ s', Inv X pins σ H s' → Q (.bool (!o.isSome)) s') :
    wpAny (model X.prog X.w) A (compareOp .NotIn u (.ref a)) Q E s := by
  rcases g with ⟨kvs, k, e, ey, l⟩ | ⟨kvs, k, b, e, ey, eb, l⟩
  · exact d_notIn hu I (.inl ⟨kvs, k, e, ey, l⟩) ry h
  · subst ey
    cases (show u = Value.ref b from ry)
    obtain ⟨z, hd, xs, rel, dd⟩ := dt_rd I.hok e
    refine wpAny_notIn_heap (tupleKind_room_in1 hu) (key_ofS I eb) hd dd ?_
    have q := (rel.val k).isSome_eq
    rw [Option.isSome_map] at q
    rw [← q, ← l]
    exact h _ (I.tok _)
def DPutS (K : Fg) (H : Hp) (a : Addr) (y v : V) (H' : Hp) : Prop := DPut H a y v H' ∨ ∃ kvs k b, H a = some (.dT kvs) ∧ y = .ref b ∧ SqT K H b (k.map kV) ∧ (valV kvs k).isSome = true ∧ kvs.length < sizeLine ∧ H' = upd H a (.dT (putK kvs k v))
theorem KT_putS {kvs : List (List Key × V)} {xs : List (List Key × Addr × Value)} (q : KT H kvs xs) (k : List Key) (b : Addr) {y : V} {u : Value} (hs : (valV kvs k).isSome = true) (ry : RelV y u) : KT H (putK kvs k y) (storedH xs k b u) := by
  have e : (kvs.any fun kv => decide (kv.1 = k)) = (atKey xs k).isSome := by
    rw [valV_any, (q.val k).isSome_eq, Option.isSome_map]
  have e2 : (atKey xs k).isSome = true := by rw [← e, valV_any]; exact hs
  unfold putK storedH
  rw [e, if_pos e2, if_pos e2]
  exact q.repl k ry
theorem dS_setItem {H' : Hp} {Q : Unit → Shared → Prop} (hu : A.units + 1 < cLine) (I : Inv X pins σ H s) (g : DPutS X.K H a y v H') (ry : RelV y u) (rv : RelV v r) (h : ∀ s', Inv X pins σ H' s' → Q () s') :
    wpAny (model X.prog X.w) A (setItem (.ref a) u r) Q E s := by
  rcases g with g | ⟨kvs, k, b, e, ey, eb, hs0, l, eH⟩
  · exact d_setItem hu I g ry rv h
  · subst ey eH
    cases (show u = Value.ref b from ry)
    obtain ⟨z, hd, xs, rel, dd⟩ := dt_of I.hok e
    have hz : xs.length ≤ sizeLine := by rw [← Paired.length rel]; exact z
    have hl : (putK kvs k v).length ≤ sizeLine := by have := length_putK kvs k v; omega
    refine wpAny_setItem_heap (hsz := hz) (tupleKind_room_in1 hu) (key_ofS I eb) dd fun h' dd' hs => h _ ?_
    obtain ⟨q, es, ep, hq, h2, h3, h4, _, h5⟩ := dd'
    refine d_write I (by rw [e]; exact True.intro) hs ⟨q, hq⟩ ⟨hl, hd, _, (KT_putS rel k b hs0 rv).keeps fun c ys ec => ?_, q, es, ep, hq, h2, h3, h4, h5⟩
    rw [upd_ne (ne_of ec e (fun z => nomatch z))]
    exact ec
end
section
variable {X : Cx} {C : Cn} {T : Tb} {G : Gh}
theorem set_dict (hu : X.A.units + 1 < cLine) : PSet X (fun o i v H Q => ∃ a H', o = .ref a ∧ DPutS X.K H a i v H' ∧ Q H') := by
  intro pins s σ H o i v ov iv u Q I ro ri rv h
  obtain ⟨a, H', rfl, g, q⟩ := h
  cases ro
  exact dS_setItem hu I g ri rv fun s' I' => ⟨_, I', q⟩

/-! ### readings -/
theorem Rb.dict {K : Fg} {e : Vn} {σ : Stt} {H : Hp} (m : Mt' K G e σ H) {v : V} {ps : List (D × D)} (r : Rb K G e σ H v (.dict ps)) (hn : ∀ x, ps ≠ [(.bool true, .str x)]) : ∃ a, v = .ref a ∧ ((∃ kvs, Rd H a (.dK kvs) ∧ RpK K (Fz G e σ H) kvs ps) ∨ ∃ kvs qs, ps = tagD :: qs ∧ Rd H a (.dT kvs) ∧ RpT K (Fz G e σ H) kvs qs) := by
  rcases r with r | ⟨i, h1, h2⟩
  · cases r with
    | dK h q => exact ⟨_, rfl, .inl ⟨_, .inr ⟨_, cutH_sub.is h ntF⟩, q⟩⟩
    | dT h q => exact ⟨_, rfl, .inr ⟨_, _, rfl, .inr ⟨_, cutH_sub.is h ntF⟩, q⟩⟩
    | fn h => exact absurd rfl (hn _)
  · obtain ⟨a, h3, _, _, h4⟩ := m.own i _ h1
    rw [h2] at h3
    cases h3
    cases h4 with
    | dK h q => exact ⟨_, rfl, .inl ⟨_, .inl h, q⟩⟩
    | dT h q => exact ⟨_, rfl, .inr ⟨_, _, rfl, .inl h, q⟩⟩
theorem noTag {K : Fg} {F : Hp} {kvs : List (Key × V)} {ps : List (D × D)} (h : RpK K F kvs (tagD :: ps)) : False := by
  generalize hq : tagD :: ps = qs at h
  cases h with
  | nil => cases hq
  | cons r rs =>
    rename_i k _ _ _ _
    injection hq with h1 h2
    cases k <;> cases h1
theorem dicG_tag (ps : List (D × D)) (k : D) : dicG (.dict (tagD :: ps)) k = if isKT k then some (dLook ps k) else none := rfl
theorem dicG_key {K : Fg} {F : Hp} {kvs : List (Key × V)} {ps : List (D × D)} (h : RpK K F kvs ps) (k : D) : dicG (.dict ps) k = if isK k then some (dLook ps k) else none := by
  cases h with
  | nil => rfl
  | cons r rs =>
    rename_i q _ _ _ _
    cases q <;> rfl
theorem dgetRead {K : Fg} {e : Vn} {σ : Stt} {H : Hp} (m : Mt' K G e σ H) {v y : V} {dx dk : D} {o : Option D} (r : Rb K G e σ H v dx) (ry : Rb K G e σ H y dk) (h : dicG dx dk = some o) :
    ∃ a ov, v = .ref a ∧ DGetS K H a y ov ∧ (∀ d, o = some d → ∃ w, ov = some w ∧ Rp K (Fz G e σ H) w d) ∧ (o = none → ov = none) := by
  cases dx <;> first | (cases h; done) | skip
  rename_i ps
  have hn : ∀ x, ps ≠ [(.bool true, .str x)] := fun x z => by
    rw [z] at h
    cases h
  obtain ⟨a, rfl, ⟨kvs, h1, h2⟩ | ⟨kvs, qs, rfl, h1, h2⟩⟩ := r.dict m hn
  · rw [dicG_key h2] at h
    split at h
    · rename_i hk
      injection h with h
      obtain ⟨k, rfl⟩ := isK_key hk
      have e1 := rp_key (ry.now m (by cases k <;> rfl))
      obtain ⟨q1, q2⟩ := look_k k h2
      rw [h] at q1 q2
      exact ⟨a, valV kvs k, rfl, .inl ⟨kvs, k, h1, e1, rfl⟩, q1 , q2⟩
    · cases h
  · rw [dicG_tag] at h
    split at h
    · rename_i hk
      injection h with h
      obtain ⟨k, rfl⟩ := isKT_key hk
      obtain ⟨b, vs, rfl, h3, h4⟩ := ry.tup m
      have e1 := rpA_keys h4
      subst e1
      obtain ⟨q1, q2⟩ := look_t k h2
      rw [h] at q1 q2
      exact ⟨a, valV kvs k, rfl, .inr ⟨kvs, k, b, h1, rfl, h3, rfl⟩, q1, q2⟩
    · cases h
def tDixS (K : Fg) (td ty : TE) : TE := fun σ H Q => td σ H fun x H1 => ty σ H1 fun y H2 => ∃ a v, x = .ref a ∧ DGetS K H2 a y (some v) ∧ Q v H2
theorem pe_dix {o i : Expr} {td ty : TE} {pos : Pos} (hu : X.A.units + 1 < cLine) (ho : PE X o td) (hi : PE X i ty) (hs : NoSl i) : PE X (.Subscript o i pos) (tDixS X.K td ty) := by
  refine ⟨fun pins s σ H Q I h => ?_⟩
  refine subD_of PySem.F.slot_dict_getitem.lookup hs (thn (ho.run pins s σ H _ I h) fun u s1 ⟨x, H1, I1, rx, q1⟩ => thn (hi.run pins s1 σ H1 _ I1 q1) fun iv s2 ⟨y, H2, I2, ry, a, v, ex, g, q2⟩ => ?_)
  subst ex
  obtain rfl : u = Value.ref a := rx
  exact ⟨dS_typeIs I2 g, dS_getItem hu I2 g ry fun w' s3 I3 rw' => ⟨v, H2, I3, rw', q2⟩⟩
theorem pDix {a k : Xp} (ha : PX C a) (hk : PX C k) : PX C (.dix a k) := lift (fun {X T G x} g h => by
    cases x <;> first | (cases h; done) | skip
    rename_i l r pos
    simp only [ck, Bool.and_eq_true] at h
    obtain ⟨⟨h1, h2⟩, h3⟩ := h
    refine peImp (pe_dix (by have := g.un; omega) (ha.lent (G := G) g h1) (hk.lent (G := G) g h2) fun o i => by cases r <;> first | rfl | cases h3) fun σ H Q q => ?_
    obtain ⟨e, d, m, hf, q⟩ := q
    obtain ⟨dx, h4, h5⟩ := Rs.bind_eq_ok (show (ev C a e).bind _ = .ok d by simpa only [ev] using hf)
    obtain ⟨dk, h6, h7⟩ := Rs.bind_eq_ok h5
    refine ⟨e, dx, m, h4, fun v H1 s1 r1 => ⟨e, dk, m.up s1, h6, fun y H2 s2 r2 => ?_⟩⟩
    have m2 := m.up (s1.trans s2)
    unfold dixD at h7
    cases hd : dicG dx dk with
    | none => rw [hd] at h7; cases h7
    | some o =>
      cases o with
      | none => rw [hd] at h7; cases h7
      | some d1 =>
        rw [hd] at h7
        cases h7
        obtain ⟨a, ov, rfl, h8, h9, _⟩ := dgetRead m2 (r1.up s2) r2 hd
        obtain ⟨w, rfl, h10⟩ := h9 _ rfl
        exact ⟨a, w, rfl, h8, q w H2 (s1.trans s2) h10⟩) (fun _ x => by cases x <;> rfl) (fun _ x => by cases x <;> rfl) fun _ x h => by cases x <;> first | rfl | cases h
def tDinS (K : Fg) (neg : Bool) (ty td : TE) : TE := fun σ H Q => ty σ H fun y H1 => td σ H1 fun x H2 => ∃ a o, x = .ref a ∧ DGetS K H2 a y o ∧ Q (.bl (if neg then !o.isSome else o.isSome)) H2
theorem pc_dinS {i o : Expr} {td ty : TE} (hu : X.A.units + 1 < cLine) (hi : PE X i ty) (ho : PE X o td) : ∀ neg : Bool, PC X (if neg then .NotIn else .In) i o (tDinS X.K neg ty td)
  | true => by
    refine ⟨fun pins s σ H Q I h => ?_⟩
    refine thn (hi.run pins s σ H _ I h) fun iv s1 ⟨y, H1, I1, ry, q1⟩ => thn (ho.run pins s1 σ H1 _ I1 q1) fun u s2 ⟨x, H2, I2, rx, a, ov, ex, g, q2⟩ => ?_
    subst ex
    obtain rfl : u = Value.ref a := rx
    exact dS_notIn hu I2 g ry fun s3 I3 => ⟨.bl (!ov.isSome), H2, I3, rfl, q2⟩
  | false => by
    refine ⟨fun pins s σ H Q I h => ?_⟩
    refine thn (hi.run pins s σ H _ I h) fun iv s1 ⟨y, H1, I1, ry, q1⟩ => thn (ho.run pins s1 σ H1 _ I1 q1) fun u s2 ⟨x, H2, I2, rx, a, ov, ex, g, q2⟩ => ?_
    subst ex
    obtain rfl : u = Value.ref a := rx
    exact dS_in hu I2 g ry fun s3 I3 => ⟨.bl ov.isSome, H2, I3, rfl, q2⟩
theorem same_upd2 {H : Hp} {p : Addr} {o u : HO} (hp : H p = none) : Same H (upd (upd H p o) p u) := fun b w z => by
  have hb : b ≠ p := ne_of_none z hp
  exact .inl (by rw [upd_ne hb, upd_ne hb]; exact z)
theorem fz_new2 {K : Fg} {e : Vn} {σ : Stt} {H : Hp} (m : Mt' K G e σ H) {p : Addr} {o u : HO} (hp : H p = none) : Fz G e σ (upd (upd H p o) p u) p = some u := cutH_some.mpr ⟨fun z => z.elim (fun b => (m.ban p b).1 hp) (fun b => (m.ownThere b).1 hp), upd_same⟩
theorem pDnew (t : Bool) : PX C (.dnew t) := lift (fun {X T G x} g h => by
    cases x <;> first | (cases h; done) | skip
    rename_i ks vs pos
    cases ks with
    | cons _ _ => cases h
    | nil =>
      cases vs with
      | cons _ _ => cases h
      | nil =>
        cases t with
        | true =>
          refine peImp (peLk pe_dnewT) fun σ H Q q => ?_
          obtain ⟨e, d, m, hf, q⟩ := q
          cases (show Rs.ok _ = Rs.ok d from hf)
          exact fun p hp => .inr ⟨p, _, upd_same, True.intro, fun od => q _ _ (same_upd2 hp) (.dT (fz_new2 m hp) .nil)⟩
        | false =>
          refine peImp (peLk pe_dnewK) fun σ H Q q => ?_
          obtain ⟨e, d, m, hf, q⟩ := q
          cases (show Rs.ok _ = Rs.ok d from hf)
          exact fun p hp => .inr ⟨p, _, upd_same, True.intro, fun od => q _ _ (same_upd2 hp) (.dK (fz_new2 m hp) .nil)⟩) (fun _ x => by cases x <;> rfl) (fun _ x => by cases x <;> rfl) fun _ x h => by cases x <;> first | rfl | cases h
theorem dnewO {t : Bool} {x : Expr} (g : Gd X C T) (h : ck T .val (.dnew t) x = true) : PE X x (tO X.K G (ev C (.dnew t))) := by
  cases x <;> first | (cases h; done) | skip
  rename_i ks vs pos
  cases ks with
  | cons _ _ => cases h
  | nil =>
    cases vs with
    | cons _ _ => cases h
    | nil =>
      cases t with
      | true =>
        refine peImp pe_dnewT fun σ H Q q => ?_
        obtain ⟨e, d, m, hf, q⟩ := q
        cases (show Rs.ok _ = Rs.ok d from hf)
        exact fun p hp => q _ _ (same_new hp) hp (.dT upd_same .nil)
      | false =>
        refine peImp pe_dnewK fun σ H Q q => ?_
        obtain ⟨e, d, m, hf, q⟩ := q
        cases (show Rs.ok _ = Rs.ok d from hf)
        exact fun p hp => q _ _ (same_new hp) hp (.dK upd_same .nil)
theorem dinKey {neg : Bool} {k a : Xp} {x : Expr} {m : Md} (h : ck T m (.din neg k a) x = true) : ∃ l r pos, x = .Compare l [if neg then .NotIn else .In] [r] pos ∧ ck T .lent k l = true ∧ ck T .lent a r = true ∧ notSet r = true := by
  unfold ck at h
  split at h
  · rename_i l o r pos
    simp only [Bool.and_eq_true, decide_eq_true_eq] at h
    obtain ⟨⟨⟨rfl, h1⟩, h2⟩, h3⟩ := h
    exact ⟨_, _, _, rfl, h1, h2, h3⟩
  · cases h
theorem dinRead {neg : Bool} {k a : Xp} {σ : Stt} {H : Hp} {K : Fg} {e : Vn} {d : D} {Q : VK} (m : Mt' K G e σ H) (hf : ev C (.din neg k a) e = .ok d) (q : ∀ b H', d = .bool b → Same H H' → Q (.bl b) H') : tDinS K neg (tB K G (ev C k)) (tB K G (ev C a)) σ H Q := by
  obtain ⟨dk, h4, h5⟩ := Rs.bind_eq_ok (show (ev C k e).bind _ = .ok d by simpa only [ev] using hf)
  obtain ⟨dx, h6, h7⟩ := Rs.bind_eq_ok h5
  refine ⟨e, dk, m, h4, fun y H1 s1 r1 => ⟨e, dx, m.up s1, h6, fun v H2 s2 r2 => ?_⟩⟩
  have m2 := m.up (s1.trans s2)
  unfold dinD at h7
  cases hd : dicG dx dk with
  | none => rw [hd] at h7; cases h7
  | some o =>
    rw [hd] at h7
    cases h7
    obtain ⟨a, ov, rfl, h8, h9, h10⟩ := dgetRead m2 r2 (r1.up s2) hd
    have e1 : ov.isSome = o.isSome := by
      cases o with
      | none => rw [h10 rfl]; rfl
      | some d1 => obtain ⟨w, rfl, _⟩ := h9 d1 rfl; rfl
    refine ⟨a, ov, rfl, h8, ?_⟩
    rw [e1]
    exact q _ H2 rfl (s1.trans s2)
theorem pDin {k a : Xp} (neg : Bool) (hk : PX C k) (ha : PX C a) : PX C (.din neg k a) := by
  have val : ∀ {X : Cx} {T : Tb} {G : Gh} {x : Expr} {m : Md}, Gd X C T → ck T m (.din neg k a) x = true → PE X x (tE X.K G (ev C (.din neg k a))) := fun {X T G x m} g h => by
    obtain ⟨l, r, pos, rfl, h1, h2, h3⟩ := dinKey h
    refine peImp (pe_cmp (pc_dinS (by have := g.un; omega) (hk.lent (G := G) g h1) (ha.lent (G := G) g h2) neg) (noSet h3 _)) fun σ H Q q => ?_
    obtain ⟨e, d, mm, hf, q⟩ := q
    exact dinRead mm hf fun b H' hb s => q _ H' s (by rw [hb]; exact .bl b)
  refine ⟨fun g h => val g h, fun g h => peImp (val g h) fun _ _ _ => tB_tE, fun {X T G x} g h => ?_⟩
  obtain ⟨l, r, pos, rfl, h1, h2, h3⟩ := dinKey h
  refine ptImp (pt_cmp (pc_dinS (by have := g.un; omega) (hk.lent (G := G) g h1) (ha.lent (G := G) g h2) neg) (noSet h3 _)) fun σ H Q q => ?_
  obtain ⟨e, c, mm, hf, q⟩ := q
  obtain ⟨d, h5, h6⟩ := Rs.bind_eq_ok hf
  refine dinRead (Q := fun x H' => ∃ b, x = .bl b ∧ Q b H') mm h5 fun b H' hb s => ?_
  subst hb
  cases h6
  exact ⟨_, rfl, q H' s⟩

/-! ### displays -/
theorem keyD_eq (k : Key) : keyD k = kD k := by cases k <;> rfl
theorem build_rp {K : Fg} {F : Hp} : ∀ {kvs : List (Key × V)} {ks : List Key} {xs : List D} {acc : List (Key × V)} {ad : List (D × D)}, kvs.map (·.1) = ks → RpA K F (kvs.map (·.2)) xs → RpK K F acc ad → RpK K F (mergeK acc kvs) (dBuild ks xs ad)
  | [], ks, xs, acc, ad, h, r, q => by
    subst h
    exact q
  | kv :: kvs, ks, xs, acc, ad, h, r, q => by
    subst h
    cases r with
    | cons r1 r2 =>
      have := build_rp (acc := putK acc kv.1 kv.2) rfl r2 (set_k kv.1 r1 q)
      rw [List.map_cons, dBuild, keyD_eq]
      exact this
theorem pairsRead {K : Fg} {e : Vn} {G' : Gh} : ∀ {as : Xps} {ks : List Key} {xs : List D} {σ : Stt} {H : Hp} {Q : List (V × V) → Hp → Prop}, Mt' K G' e σ H → evs C as e = .ok xs → ks.length = xs.length →
    (∀ (kvs : List (Key × V)) H2, Same H H2 → kvs.map (·.1) = ks → RpA K (Fz G' e σ H2) (kvs.map (·.2)) xs → Q (kvs.map fun kv : Key × V => (kV kv.1, kv.2)) H2) → tPairs (trsV K C ks as) σ H Q
  | .nil, ks, xs, σ, H, Q, m, h, hl, q => by
    simp only [evs, Rs.ok.injEq] at h
    subst h
    cases ks with
    | cons _ _ => cases hl
    | nil => exact q [] H (Same.refl H) rfl .nil
  | .cons a r, ks, xs, σ, H, Q, m, h, hl, q => by
    obtain ⟨d, h1, h2⟩ := Rs.bind_eq_ok (show (ev C a e).bind _ = .ok xs by simpa only [evs] using h)
    obtain ⟨ds, h3, h4⟩ := Rs.bind_eq_ok h2
    cases h4
    cases ks with
    | nil => cases hl
    | cons k ks =>
      refine ⟨G', e, d, m, h1, fun v H1 s1 r1 => ?_⟩
      refine pairsRead (m.up s1) h3 (by simpa using hl) fun kvs H2 s2 e1 r2 => ?_
      exact q ((k, v) :: kvs) H2 (s1.trans s2) (by rw [List.map_cons, e1]) (.cons (r1.up (fz_up s2)) r2)
theorem ddisO {ks : List Key} {as : Xps} (h : PXs C as) {x : Expr} (g : Gd X C T) (q : ck T .val (.ddis ks as) x = true) : PE X x (tO X.K G (ev C (.ddis ks as))) := by
  cases x <;> first | (cases q; done) | skip
  rename_i kes vs pos
  simp only [ck, Bool.and_eq_true, decide_eq_true_eq] at q
  obtain ⟨⟨⟨⟨h1, h2⟩, h3⟩, h4⟩, h5⟩ := q
  have hall : ∀ {ks : List Key} {kes : List (Option Expr)}, ckk ks kes = true → kes.all (·.isSome) = true := fun {ks} => by
    induction ks with
    | nil => intro kes hk; cases kes with
      | nil => rfl
      | cons _ _ => simp [ckk] at hk
    | cons k ks ih =>
      intro kes hk
      cases kes with
      | nil => simp [ckk] at hk
      | cons ke kes =>
        simp only [ckk, Bool.and_eq_true] at hk
        rw [List.all_cons, ih hk.2, Bool.and_true]
        cases ke with
        | some _ => rfl
        | none => cases k <;> cases hk.1
  refine peImp (pe_disp (h.pps g h1 h2 h5) (hall h1) h2 (by cases kes with
    | nil => cases h3
    | cons _ _ => simp) h4) fun σ H Q w => ?_
  obtain ⟨e, d, m, hf, w⟩ := w
  obtain ⟨xs, k1, k2⟩ := Rs.bind_eq_ok (show (evs C as e).bind _ = .ok d by simpa only [ev] using hf)
  split at k2
  · rename_i hz
    cases k2
    intro p hp
    have mP : Mt' X.K (G.plus p) e σ (upd H p (.dK [])) := m.plus hp (same_new hp) (by rw [upd_same]; exact ⟨fun z => (nomatch z), fun _ z => (nomatch z)⟩)
    refine pairsRead mP k1 hz.1 fun kvs H2 s2 e1 r2 => ⟨s2.is upd_same ntK, kvs, rfl, ?_, ?_⟩
    · have := congrArg List.length e1
      rw [List.length_map] at this
      omega
    · refine w p _ (fun b u z => ?_) hp (.dK upd_same ?_)
      · have z' : upd H p (.dK []) b = some u := by rw [upd_ne (ne_of_none z hp)]; exact z
        rcases s2 b u z' with z2 | ⟨t, o', z2, t'⟩
        · exact .inl (by rw [upd_ne (ne_of_none z hp)]; exact z2)
        · exact .inr ⟨t, o', by rw [upd_ne (ne_of_none z hp)]; exact z2, t'⟩
      · refine build_rp e1 (r2.up ?_) .nil
        refine (cutH_same (fun b z => ?_) (Same.refl H2)).trans (cutH_upd (.inr (.inr rfl)))
        rcases z with z | z | z
        · exact .inl (.inl (.inl z))
        · exact .inl (.inr z)
        · exact .inl (.inl (.inr z))
  · cases k2
theorem pDdis {ks : List Key} {as : Xps} (h : PXs C as) : PX C (.ddis ks as) := lift (fun {X T G x} g q => peImp (peLk (ddisO h g q)) fun σ H Q w => by
    obtain ⟨e, d, m, hf, w⟩ := w
    refine ⟨e, d, m, hf, fun a H' s hn t => ?_⟩
    have ha : ∀ {o : HO}, Fz G e σ (upd H' a o) a = some o := cutH_some.mpr ⟨fun z => z.elim (fun b => (m.ban a b).1 hn) (fun b => (m.ownThere b).1 hn), upd_same⟩
    have s2 : ∀ o, Same (cutH (fun b => G.ban b ∨ Own e σ b ∨ b = a) H') (Fz G e σ (upd H' a o)) := fun o b u z => by
      obtain ⟨z1, z2⟩ := cutH_some.mp z
      have hb : b ≠ a := fun q => z1 (.inr (.inr q))
      exact .inl (cutH_some.mpr ⟨fun q => z1 (q.elim .inl fun q => .inr (.inl q)), by rw [upd_ne hb]; exact z2⟩)
    have s3 : ∀ o, Same H (upd H' a o) := fun o b u z => by
      have hb : b ≠ a := ne_of_none z hn
      rcases s b u z with z2 | ⟨t, o', z2, t'⟩
      · exact .inl (by rw [upd_ne hb]; exact z2)
      · exact .inr ⟨t, o', by rw [upd_ne hb]; exact z2, t'⟩
    cases t with
    | lst h1 h2 => exact .inl (w _ H' s (top_rp m rfl s hn (.lst h1 h2)))
    | dK h1 h2 => exact .inr ⟨a, _, h1, True.intro, fun od => w _ _ (s3 _) (.dK ha (h2.up (s2 _)))⟩
    | dT h1 h2 => exact .inr ⟨a, _, h1, True.intro, fun od => w _ _ (s3 _) (.dT ha (h2.up (s2 _)))⟩)
  (fun _ x => by cases x <;> rfl) (fun _ x => by cases x <;> rfl) fun _ x h => by cases x <;> first | rfl | cases h
end
end Bk
/-! E10e: enumerate and zip. -/
namespace PySem
open Sem (wp)
open AutoSeq1 (wpAny_loadPart')
theorem meets_enumB {v : Value} {o : Obj} {H : Heap → Prop} (B : Begins v o H) :
    Meets (Builtin.«enumerate.__new__» ⟨[.type "enumerate", v], []⟩) (fun _ R s => H s.heap ∧
      R (.ok (.ret (.ref (s.heap.push o).objs.size))) { s with heap := (s.heap.push o).push { cls := .type "enumerate", data := .fields #[.none, .bool false, .ref s.heap.objs.size, rawInt 0, .none, .none] } }) :=
  .of_wp fun prog w A R s h => by
    obtain ⟨hp, g, d, tk, os⟩ := s; obtain ⟨h1, h⟩ := h
    have hsub := sub_enumerate
    have q1 : ∀ {A' : Around} {E : Value → Shared → Prop} {Q : Value → Shared → Prop}, Q (.ref hp.objs.size) ⟨hp.push o, g, d, tk, os⟩ → wpAny (model prog w) A' (pyIter v) Q E ⟨hp, g, d, tk, os⟩ :=
      fun q => B.iter prog w _ _ ⟨hp, g, d, tk, os⟩ _ h1 q
    wp_walk using q1
    refine wpAny_stack_any fun st => wpAny_pure ?_
    split
    · rename_i c _ _ _ _ _
      cases (c == Value.type "enumerate")
      · wp_walk using q1
        exact ⟨_, rfl, h⟩
      · wp_walk using q1
        exact ⟨_, rfl, h⟩
    · wp_walk using q1
      exact ⟨_, rfl, h⟩
theorem call_enumB {prog : Program} {w : World} {A : Around} {E : Value → Shared → Prop} {s : Shared} {v : Value} {o : Obj} {H : Heap → Prop} {Q : Value → Shared → Prop} (B : Begins v o H) (h1 : H s.heap)
    (h : ∀ h', IsEnum h' (s.heap.objs.size + 1) s.heap.objs.size 0 .none → h'.get? s.heap.objs.size = some o → h'.objs.size = s.heap.objs.size + 2 →
      (∀ b o, s.heap.get? b = some o → h'.get? b = some o) → Q (.ref (s.heap.objs.size + 1)) { s with heap := h' }) :
    wpAny (model prog w) A (call (.type "enumerate") [v]) Q E s := by
  refine callType_new F.called_enumerate (by decide) (F.typeCall_enumerate_1 _) (F.newCall_enumerate_1 _) (fun obj => F.args_object_init_2 obj _) F.entry_enumerate_new (meets_enumB B) ⟨h1, ?_⟩
  have hz : (s.heap.push o).objs.size = s.heap.objs.size + 1 := Heap.size_push ..
  show _ ∧ _
  rw [hz]
  have he : IsEnum ((s.heap.push o).push { cls := .type "enumerate", data := .fields #[.none, .bool false, .ref s.heap.objs.size, rawInt 0, .none, .none] }) (s.heap.objs.size + 1) s.heap.objs.size 0 .none := by
    have := Heap.get?_push_size (s.heap.push o) (o := { cls := .type "enumerate", data := .fields #[.none, .bool false, .ref s.heap.objs.size, rawInt 0, .none, .none] }) rfl
    rw [hz] at this; exact this
  refine ⟨⟨_, he, rfl⟩, h _ he (Heap.get?_push_of_some _ (Heap.get?_push_size _ B.free)) (by rw [Heap.size_push, hz]) fun b o x => Heap.get?_push_of_some _ (Heap.get?_push_of_some _ x)⟩
end PySem
namespace Bk
open PySem PySem.Spec PyProof.Rows L2
def IteT (K : Fg) (a : Addr) (n : Nat) : It :=
  ⟨fun i H => ∃ (xs : List V) (x : V), SqT K H a xs ∧ xs[i]? = some x ∧ xs.length = n, fun i H v H' => ∃ T x, v = .ref T ∧ H T = none ∧ H' = upd H T (.tup [.int (i : Nat), x]) ∧ ∀ xs, SqT K H a xs → xs[i]? = some x, fun i H => ∃ xs : List V, SqT K H a xs ∧ xs.length ≤ i ∧ xs.length = n⟩
theorem turn_enumT {P : Program} {w : World} {K : Fg} {elts : List Expr} {kk : Nat} {tpos : Pos} (a e it : Addr) (n : Nat) :
    Turn P w K (.Tuple elts kk tpos) (IteT K a n) [e, it] e (fun i h => (∃ old, IsEnum h e it ((i : Nat) : Int) old) ∧ h.IsTupleIter it a i ∧ e ≠ it ∧ a ≠ it ∧ a ≠ e ∧ i ≤ n) where
  mem := by simp
  obj := fun i h st b hb => by
    obtain ⟨⟨old, he⟩, ⟨o, ho, hc, hd⟩, _⟩ := st
    have e' : b = e ∨ b = it := by simpa using hb
    rcases e' with z | z
    · rw [z]; exact ⟨_, he, fun v q => nomatch q⟩
    · rw [z]; exact ⟨o, ho, fun v q => by rw [hd] at q; cases q⟩
  keep := fun i h h' st k => let ⟨⟨old, he⟩, hi, hne⟩ := st; ⟨⟨old, k e (by simp) _ he⟩, hi.at fun o q => k it (by simp) o q, hne⟩
  item := by
    intro X hP hw hK hc i pins s σ H E I hf st hg
    subst hP hw hK
    obtain ⟨⟨old, he⟩, hit, hne, hat, hae, hin⟩ := st
    obtain ⟨xs, x, hq, hx, hxn⟩ := hg
    obtain ⟨its, rv, p, hz⟩ := I.tuple hq
    obtain ⟨u, hu, ru⟩ := rv.get hx
    have hel : e < s.heap.objs.size := Heap.lt_size he
    have hil : it < s.heap.objs.size := by obtain ⟨_, q, _⟩ := hit; exact Heap.lt_size q
    have hlt : i < its.toArray.size := by
      rw [List.size_toArray]
      exact (List.getElem?_eq_some_iff.mp hu).1
    refine wpAny_pyNext_enum_itemD (PySem.Draws.tuple (A := X.A.in1) (I.ok.hd hc) it a hat its.toArray) he ⟨hit, p⟩ hlt hne (by simp; exact ⟨hne, fun z => hae z.symm⟩) fun x' h' tk hP ho hs' hT hsz hk => ?_
    have hx' : x' = u := by
      have hu2 : its.toArray[i]? = some u := by simpa using hu
      rw [hu2] at hP
      exact (Option.some.inj hP).symm
    subst hx'
    obtain ⟨hit', _⟩ := hs'
    refine ⟨_, rfl, wpAny_letOwnedTupleGo_enum (s := { s with heap := h', toks := tk + 1 }) ho fun h'' he' sb => ?_⟩
    have hT2 : h''.get? s.heap.objs.size = some { cls := .type "tuple", data := .seq #[.int i tk, x'] } := (sb.2 _ (Nat.ne_of_gt hel)).trans hT
    have new : ObjOk X.prog X.w (upd H s.heap.objs.size (.tup [.int (i : Nat), x])) h'' s.heap.objs.size (.tup [.int (i : Nat), x]) :=
      ⟨by show 2 ≤ sizeLine; decide, [.int i tk, x'], .cons ⟨_, rfl⟩ (.cons ru .nil), ⟨_, hT2, rfl, _, rfl⟩⟩
    have I1 : Inv X pins σ (upd H s.heap.objs.size (.tup [.int (i : Nat), x])) { s with heap := h'', toks := tk + 1 } :=
      I.turnedNew (ch := [e, it]) (fun b ob hb q => (sb.2 b (fun z => hb (by simp [z]))).trans (hk b ob (fun z => hb (by simp [z])) (fun z => hb (by simp [z])) q)) hf (Nat.le_refl _) new
    refine ⟨.ref s.heap.objs.size, _, I1, rfl, ⟨_, x, rfl, I.hok.fresh (Nat.le_refl _), rfl, fun ys hy => by rw [I.tuple_inj hy hq]; exact hx⟩, ⟨⟨x', ?_⟩, hit'.at fun o q => (sb.2 it (Ne.symm hne)).trans q, hne, hat, hae, by have := (List.getElem?_eq_some_iff.mp hx).1; omega⟩, fun b hb => ?_⟩
    · have e1 : ((i + 1 : Nat) : Int) = (i : Int) + 1 := by omega
      rw [e1]; exact he'
    · have hb' : b < s.heap.objs.size := by
        have e' : b = e ∨ b = it := by simpa using hb
        rcases e' with z | z
        · rw [z]; exact hel
        · rw [z]; exact hil
      rw [upd_ne (Nat.ne_of_lt hb')]
      exact (hf b hb).1
  done := by
    intro X hP hw hK hc i pins s σ H E I hf st hg
    subst hP hw hK
    obtain ⟨⟨old, he⟩, hit, hne, hat, hae, hin⟩ := st
    obtain ⟨xs, hq, hx, hxn⟩ := hg
    obtain ⟨its, rv, p, hz⟩ := I.tuple hq
    obtain ⟨f0, f1, f2, f3, f4, f5⟩ := hf it (by simp)
    have hl := rv.length
    have e1 : i = its.toArray.size := by rw [List.size_toArray]; omega
    refine wpAny_pyNext_enum_endD (PySem.Draws.tuple (A := X.A.in1) (I.ok.hd hc) it a hat its.toArray) he ⟨by rw [← e1]; exact hit, p⟩ fun h' eb => ⟨rfl, I.turned (t' := s.toks) (fun b o hb q => eb b o hb q) f0 f1 f3 f4 f5⟩
  self := fun A i s Q E st h => let ⟨⟨_, he⟩, _⟩ := st; wpAny_pyIter_enum he h
def iEnumA (K : Fg) (ta : TA) : TI := fun σ H R => ta σ H fun vs H1 => ∃ a xs, vs = [.ref a] ∧ ((SqL K H1 a xs ∧ R (Ite K a) H1) ∨ (SqT K H1 a xs ∧ R (IteT K a xs.length) H1))
theorem pi_enumA {X : Cx} {e : Expr} {ta : TA} {p pos tpos : Pos} {elts : List Expr} {kk : Nat} (hg : Gl X "enumerate") (hm : X.mg "enumerate" = none) (ha : PA X [e] ta) (hs : starEach [e] X.env = [(false, eval e X.env)] := by rfl) :
    PI X (.Tuple elts kk tpos) (.Call (.Name "enumerate" p) [e] [] pos) (iEnumA X.K ta) := by
  refine ⟨fun pins s σ H R I h => ?_⟩
  refine Call_ (ld_blt I hg hm boot_enumerate (PyProof.Rows.callWith_type1 (thn (ha.run pos pins s σ H _ I h) fun us s1 ⟨vs, H1, I1, r1, q1⟩ => ?_) hs rfl))
  obtain ⟨a, xs, ex, q1⟩ := q1
  subst ex
  cases r1 with
  | cons r rr =>
    cases rr
    cases r
    have fresh2 : ∀ b, b ∈ [s1.heap.objs.size + 1, s1.heap.objs.size] → FpOk X pins H1 b := fun b hb => by
      have e' : b = s1.heap.objs.size + 1 ∨ b = s1.heap.objs.size := by simpa using hb
      have hle : s1.heap.objs.size ≤ b := by
        rcases e' with z | z
        · rw [z]; exact Nat.le_add_right _ _
        · rw [z]; exact Nat.le_refl _
      exact I1.fpOk hle (I1.hok.fresh hle)
    rcases q1 with ⟨hq, q⟩ | ⟨hq, q⟩
    · obtain ⟨its, rv, p', hz⟩ := I1.list hq
      refine call_enumerate_list p'.isList fun h' he hit hsz hk => wpAny_pyIter_enum he ?_
      have I2 : Inv X pins σ H1 { s1 with heap := h' } := I1.kept (t' := s1.toks) hk
      exact ⟨s1.heap.objs.size + 1, [s1.heap.objs.size + 1, s1.heap.objs.size], _, _, H1, rfl, I2, turn_enum a (s1.heap.objs.size + 1) s1.heap.objs.size, ⟨⟨.none, he⟩, hit, Nat.succ_ne_self _⟩, fresh2, q⟩
    · obtain ⟨its, rv, p', hz⟩ := I1.tuple hq
      have hal : a < s1.heap.objs.size := by obtain ⟨o1, ho1, _⟩ := id p'; exact Heap.lt_size ho1
      refine call_enumB (begins_tuple a its.toArray) p' fun h' he hit hsz hk => wpAny_pyIter_enum he ?_
      have I2 : Inv X pins σ H1 { s1 with heap := h' } := I1.kept (t' := s1.toks) hk
      exact ⟨s1.heap.objs.size + 1, [s1.heap.objs.size + 1, s1.heap.objs.size], _, _, H1, rfl, I2, turn_enumT a (s1.heap.objs.size + 1) s1.heap.objs.size xs.length, ⟨⟨.none, he⟩, ⟨_, hit, rfl, rfl⟩, Nat.succ_ne_self _, Nat.ne_of_lt hal, Nat.ne_of_lt (Nat.lt_succ_of_lt hal), Nat.zero_le _⟩, fresh2, q⟩

end Bk
namespace PySem
open Sem (wp)
/-! zip of a list with a tuple -/
abbrev zmH2 (h : Heap) (l1 l2 : Addr) : Heap := (zipH1 h l1).push { cls := .type "tuple_iterator", data := .fields #[.ref l2, .int 0 0] }
abbrev zmH3 (h : Heap) (l1 l2 : Addr) : Heap := (zmH2 h l1 l2).push { cls := .type "tuple", data := .seq #[.ref h.objs.size, .ref (zipH1 h l1).objs.size] }
abbrev zmH4 (h : Heap) (l1 l2 : Addr) : Heap := (zmH3 h l1 l2).push { cls := .type "tuple", data := .seq #[.none, .none] }
abbrev zmH5 (h : Heap) (l1 l2 : Addr) : Heap := (zmH4 h l1 l2).push { cls := .type "zip", data := .fields #[.none, .bool false, .bool false, .ref (zmH2 h l1 l2).objs.size, .ref (zmH3 h l1 l2).objs.size] }
theorem meets_zipM_new (l1 l2 : Addr) (xs ys : Array Value) :
    Meets (Builtin.«zip.__new__» ⟨[.type "zip", .ref l1, .ref l2], []⟩) (fun _ R s => s.heap.IsList l1 xs ∧ s.heap.IsTuple l2 ys ∧
      R (.ok (.ret (.ref (zmH4 s.heap l1 l2).objs.size))) { s with heap := zmH5 s.heap l1 l2 }) :=
  .of_wp fun prog w A R s h => by
    obtain ⟨hp, g, d, tk, os⟩ := s; obtain ⟨hl1, hl2, h⟩ := h
    have hsub := sub_zip
    have hL1 : Heap.IsList (Shared.heap ⟨hp, g, d, tk, os⟩) l1 xs := hl1
    have hL2 : Heap.IsTuple (Shared.heap ⟨hp.push { cls := .type "list_iterator", data := .fields #[.ref l1, .int 0 0] }, g, d, tk, os⟩) l2 ys := Heap.IsTuple.push hl2 _
    wp_walk using wpAny_pyIter_list hL1, wpAny_pyIter_tuple hL2
    exact ⟨_, rfl, h⟩
theorem call_zipM {prog : Program} {w : World} {A : Around} {E : Value → Shared → Prop} {s : Shared} {l1 l2 : Addr} {xs ys : Array Value} {Q : Value → Shared → Prop} (hl1 : s.heap.IsList l1 xs) (hl2 : s.heap.IsTuple l2 ys)
    (h : ∀ h', IsZip h' (s.heap.objs.size + 4) (s.heap.objs.size + 2) (s.heap.objs.size + 3) .none → IsPair h' (s.heap.objs.size + 2) (.ref s.heap.objs.size) (.ref (s.heap.objs.size + 1)) →
      IsPair h' (s.heap.objs.size + 3) .none .none → h'.IsListIter s.heap.objs.size l1 0 → h'.IsTupleIter (s.heap.objs.size + 1) l2 0 → h'.objs.size = s.heap.objs.size + 5 →
      (∀ c o, s.heap.get? c = some o → h'.get? c = some o) → Q (.ref (s.heap.objs.size + 4)) { s with heap := h' }) :
    wpAny (model prog w) A (call (.type "zip") [.ref l1, .ref l2]) Q E s := by
  refine callType_new F.called_zip (by decide) (F.typeCall_zip_2 _ _) (F.newCall_zip_2 _ _) (fun obj => F.args_object_init_3 obj _ _) F.entry_zip_new
    (meets_zipM_new l1 l2 xs ys) ⟨hl1, hl2, ?_⟩
  have z1 : (zipH1 s.heap l1).objs.size = s.heap.objs.size + 1 := Heap.size_push ..
  have z2 : (zmH2 s.heap l1 l2).objs.size = s.heap.objs.size + 2 := by rw [Heap.size_push, z1]
  have z3 : (zmH3 s.heap l1 l2).objs.size = s.heap.objs.size + 3 := by rw [Heap.size_push, z2]
  have z4 : (zmH4 s.heap l1 l2).objs.size = s.heap.objs.size + 4 := by rw [Heap.size_push, z3]
  have z5 : (zmH5 s.heap l1 l2).objs.size = s.heap.objs.size + 5 := by rw [Heap.size_push, z4]
  have up1 : ∀ c o, (zmH4 s.heap l1 l2).get? c = some o → (zmH5 s.heap l1 l2).get? c = some o := fun c o x => Heap.get?_push_of_some _ x
  have up2 : ∀ c o, (zmH3 s.heap l1 l2).get? c = some o → (zmH5 s.heap l1 l2).get? c = some o := fun c o x => up1 c o (Heap.get?_push_of_some _ x)
  have up3 : ∀ c o, (zmH2 s.heap l1 l2).get? c = some o → (zmH5 s.heap l1 l2).get? c = some o := fun c o x => up2 c o (Heap.get?_push_of_some _ x)
  have up4 : ∀ c o, (zipH1 s.heap l1).get? c = some o → (zmH5 s.heap l1 l2).get? c = some o := fun c o x => up3 c o (Heap.get?_push_of_some _ x)
  have g5 : (zmH5 s.heap l1 l2).get? (zmH4 s.heap l1 l2).objs.size = some _ := Heap.get?_push_size _ rfl
  have g4 : (zmH5 s.heap l1 l2).get? (zmH3 s.heap l1 l2).objs.size = some _ := up1 _ _ (Heap.get?_push_size _ rfl)
  have g3 : (zmH5 s.heap l1 l2).get? (zmH2 s.heap l1 l2).objs.size = some _ := up2 _ _ (Heap.get?_push_size _ rfl)
  have g2 : (zmH5 s.heap l1 l2).get? (zipH1 s.heap l1).objs.size = some _ := up3 _ _ (Heap.get?_push_size _ rfl)
  have g1 : (zmH5 s.heap l1 l2).get? s.heap.objs.size = some _ := up4 _ _ (Heap.get?_push_size _ rfl)
  show _ ∧ _
  rw [z2, z3, z4] at g5
  rw [z1, z2] at g3
  rw [z3] at g4
  rw [z1] at g2
  rw [z4]
  exact ⟨⟨_, g5, rfl⟩, h _ g5 g3 g4 ⟨_, g1, rfl, rfl⟩ ⟨_, g2, rfl, rfl⟩ z5 fun c o x => up4 c o (Heap.get?_push_of_some _ x)⟩
/-! zip of a tuple with a list -/
abbrev znH1 (h : Heap) (l1 : Addr) : Heap := h.push { cls := .type "tuple_iterator", data := .fields #[.ref l1, .int 0 0] }
abbrev znH2 (h : Heap) (l1 l2 : Addr) : Heap := (znH1 h l1).push { cls := .type "list_iterator", data := .fields #[.ref l2, .int 0 0] }
abbrev znH3 (h : Heap) (l1 l2 : Addr) : Heap := (znH2 h l1 l2).push { cls := .type "tuple", data := .seq #[.ref h.objs.size, .ref (znH1 h l1).objs.size] }
abbrev znH4 (h : Heap) (l1 l2 : Addr) : Heap := (znH3 h l1 l2).push { cls := .type "tuple", data := .seq #[.none, .none] }
abbrev znH5 (h : Heap) (l1 l2 : Addr) : Heap := (znH4 h l1 l2).push { cls := .type "zip", data := .fields #[.none, .bool false, .bool false, .ref (znH2 h l1 l2).objs.size, .ref (znH3 h l1 l2).objs.size] }
theorem meets_zipN_new (l1 l2 : Addr) (xs ys : Array Value) :
    Meets (Builtin.«zip.__new__» ⟨[.type "zip", .ref l1, .ref l2], []⟩) (fun _ R s => s.heap.IsTuple l1 xs ∧ s.heap.IsList l2 ys ∧
      R (.ok (.ret (.ref (znH4 s.heap l1 l2).objs.size))) { s with heap := znH5 s.heap l1 l2 }) :=
  .of_wp fun prog w A R s h => by
    obtain ⟨hp, g, d, tk, os⟩ := s; obtain ⟨hl1, hl2, h⟩ := h
    have hsub := sub_zip
    have hL1 : Heap.IsTuple (Shared.heap ⟨hp, g, d, tk, os⟩) l1 xs := hl1
    have hL2 : Heap.IsList (Shared.heap ⟨hp.push { cls := .type "tuple_iterator", data := .fields #[.ref l1, .int 0 0] }, g, d, tk, os⟩) l2 ys := Heap.IsList.push hl2 _
    wp_walk using wpAny_pyIter_tuple hL1, wpAny_pyIter_list hL2
    exact ⟨_, rfl, h⟩
theorem call_zipN {prog : Program} {w : World} {A : Around} {E : Value → Shared → Prop} {s : Shared} {l1 l2 : Addr} {xs ys : Array Value} {Q : Value → Shared → Prop} (hl1 : s.heap.IsTuple l1 xs) (hl2 : s.heap.IsList l2 ys)
    (h : ∀ h', IsZip h' (s.heap.objs.size + 4) (s.heap.objs.size + 2) (s.heap.objs.size + 3) .none → IsPair h' (s.heap.objs.size + 2) (.ref s.heap.objs.size) (.ref (s.heap.objs.size + 1)) →
      IsPair h' (s.heap.objs.size + 3) .none .none → h'.IsTupleIter s.heap.objs.size l1 0 → h'.IsListIter (s.heap.objs.size + 1) l2 0 → h'.objs.size = s.heap.objs.size + 5 →
      (∀ c o, s.heap.get? c = some o → h'.get? c = some o) → Q (.ref (s.heap.objs.size + 4)) { s with heap := h' }) :
    wpAny (model prog w) A (call (.type "zip") [.ref l1, .ref l2]) Q E s := by
  refine callType_new F.called_zip (by decide) (F.typeCall_zip_2 _ _) (F.newCall_zip_2 _ _) (fun obj => F.args_object_init_3 obj _ _) F.entry_zip_new
    (meets_zipN_new l1 l2 xs ys) ⟨hl1, hl2, ?_⟩
  have z1 : (znH1 s.heap l1).objs.size = s.heap.objs.size + 1 := Heap.size_push ..
  have z2 : (znH2 s.heap l1 l2).objs.size = s.heap.objs.size + 2 := by rw [Heap.size_push, z1]
  have z3 : (znH3 s.heap l1 l2).objs.size = s.heap.objs.size + 3 := by rw [Heap.size_push, z2]
  have z4 : (znH4 s.heap l1 l2).objs.size = s.heap.objs.size + 4 := by rw [Heap.size_push, z3]
  have z5 : (znH5 s.heap l1 l2).objs.size = s.heap.objs.size + 5 := by rw [Heap.size_push, z4]
  have up1 : ∀ c o, (znH4 s.heap l1 l2).get? c = some o → (znH5 s.heap l1 l2).get? c = some o := fun c o x => Heap.get?_push_of_some _ x
  have up2 : ∀ c o, (znH3 s.heap l1 l2).get? c = some o → (znH5 s.heap l1 l2).get? c = some o := fun c o x => up1 c o (Heap.get?_push_of_some _ x)
  have up3 : ∀ c o, (znH2 s.heap l1 l2).get? c = some o → (znH5 s.heap l1 l2).get? c = some o := fun c o x => up2 c o (Heap.get?_push_of_some _ x)
  have up4 : ∀ c o, (znH1 s.heap l1).get? c = some o → (znH5 s.heap l1 l2).get? c = some o := fun c o x => up3 c o (Heap.get?_push_of_some _ x)
  have g5 : (znH5 s.heap l1 l2).get? (znH4 s.heap l1 l2).objs.size = some _ := Heap.get?_push_size _ rfl
  have g4 : (znH5 s.heap l1 l2).get? (znH3 s.heap l1 l2).objs.size = some _ := up1 _ _ (Heap.get?_push_size _ rfl)
  have g3 : (znH5 s.heap l1 l2).get? (znH2 s.heap l1 l2).objs.size = some _ := up2 _ _ (Heap.get?_push_size _ rfl)
  have g2 : (znH5 s.heap l1 l2).get? (znH1 s.heap l1).objs.size = some _ := up3 _ _ (Heap.get?_push_size _ rfl)
  have g1 : (znH5 s.heap l1 l2).get? s.heap.objs.size = some _ := up4 _ _ (Heap.get?_push_size _ rfl)
  show _ ∧ _
  rw [z2, z3, z4] at g5
  rw [z1, z2] at g3
  rw [z3] at g4
  rw [z1] at g2
  rw [z4]
  exact ⟨⟨_, g5, rfl⟩, h _ g5 g3 g4 ⟨_, g1, rfl, rfl⟩ ⟨_, g2, rfl, rfl⟩ z5 fun c o x => up4 c o (Heap.get?_push_of_some _ x)⟩
end PySem
namespace Bk
open PySem PySem.Spec PyProof.Rows L2
/-- a list and a tuple, the items in new pairs -/
def ItzM (K : Fg) (a b : Addr) (n m : Nat) : It :=
  ⟨fun i H => ∃ (xs ys : List V) (x y : V), SqL K H a xs ∧ SqT K H b ys ∧ xs[i]? = some x ∧ ys[i]? = some y ∧ xs.length = n ∧ ys.length = m,
    fun i H v H' => ∃ T x y, v = .ref T ∧ H T = none ∧ H' = upd H T (.tup [x, y]) ∧ (∀ xs, SqL K H a xs → xs[i]? = some x) ∧ ∀ ys, SqT K H b ys → ys[i]? = some y,
    fun i H => ∃ xs ys : List V, SqL K H a xs ∧ SqT K H b ys ∧ (xs.length ≤ i ∨ ys.length ≤ i) ∧ xs.length = n ∧ ys.length = m⟩
theorem zsep {a b z TI TO i1 i2 : Addr} (D : ZipApart z TI TO i1 i2 a b) : ZipSep2 z TI TO i1 i2 [i1, a] [i2, b] where
  TIz := D.TIz
  TOz := D.TOz
  TITO := D.TITO
  TIi1 := D.TIi1
  mem1 := by simp
  zf1 := by simp; exact ⟨D.i1z.symm, D.l1z.symm⟩
  Tf1 := by simp; exact ⟨D.TOi1, D.l1TO.symm⟩
  TIi2 := D.TIi2
  mem2 := by simp
  zf2 := by simp; exact ⟨D.i2z.symm, D.l2z.symm⟩
  Tf2 := by simp; exact ⟨D.TOi2, D.l2TO.symm⟩
  sep1_2 := by simp; exact ⟨D.i12, D.l2i1.symm⟩
  sep2_1 := by simp; exact ⟨D.i12.symm, D.l1i2.symm⟩
theorem turn_zipM {P : Program} {w : World} {K : Fg} {elts : List Expr} {kk : Nat} {tpos : Pos} {a b z TI TO i1 i2 : Addr} {n m : Nat} (D : ZipApart z TI TO i1 i2 a b) :
    Turn P w K (.Tuple elts kk tpos) (ItzM K a b n m) [z, TI, TO, i1, i2] z (fun i h => IsZip h z TI TO .none ∧ IsPair h TI (.ref i1) (.ref i2) ∧ (∃ x y, IsPair h TO x y) ∧ h.IsListIter i1 a i ∧ h.IsTupleIter i2 b i ∧ i ≤ n ∧ i ≤ m) where
  mem := by simp
  obj := fun i h st c hc => by
    obtain ⟨hz, hTI, ⟨x, y, hTO⟩, ⟨o1, e1, _, d1⟩, ⟨o2, e2, _, d2⟩, _⟩ := st
    have e' : c = z ∨ c = TI ∨ c = TO ∨ c = i1 ∨ c = i2 := by simpa using hc
    rcases e' with q | q | q | q | q
    · rw [q]; exact ⟨_, hz, fun v q => nomatch q⟩
    · rw [q]; exact ⟨_, hTI, fun v q => nomatch q⟩
    · rw [q]; exact ⟨_, hTO, fun v q => nomatch q⟩
    · rw [q]; exact ⟨o1, e1, fun v q => by rw [d1] at q; cases q⟩
    · rw [q]; exact ⟨o2, e2, fun v q => by rw [d2] at q; cases q⟩
  keep := fun i h h' st k => by
    obtain ⟨hz, hTI, ⟨x, y, hTO⟩, h1, h2, h3⟩ := st
    exact ⟨k z (by simp) _ hz, k TI (by simp) _ hTI, ⟨x, y, k TO (by simp) _ hTO⟩, h1.at fun o q => k i1 (by simp) o q, h2.at fun o q => k i2 (by simp) o q, h3⟩
  item := by
    intro X hP hw hK hc i pins s σ H E I hf st hg
    subst hP hw hK
    obtain ⟨hz, hTI, ⟨x0, y0, hTO⟩, h1, h2, hin, him⟩ := st
    obtain ⟨xs, ys, x, y, hqx, hqy, hx, hy, hxn, hym⟩ := hg
    obtain ⟨its, rv, p, _⟩ := I.list hqx
    obtain ⟨its2, rv2, p2, _⟩ := I.tuple hqy
    obtain ⟨u, hu, ru⟩ := rv.get hx
    obtain ⟨u2, hu2, ru2⟩ := rv2.get hy
    have hzl : z < s.heap.objs.size := Heap.lt_size hz
    have hlt1 : i < its.toArray.size := by rw [List.size_toArray]; exact (List.getElem?_eq_some_iff.mp hu).1
    have hlt2 : i < its2.toArray.size := by rw [List.size_toArray]; exact (List.getElem?_eq_some_iff.mp hu2).1
    refine wpAny_pyNext_zipD2_item (zsep D) (PySem.Draws.list (A := X.A.in1) (I.ok.hd hc) i1 a D.l1i1 its.toArray) (PySem.Draws.tuple (A := X.A.in1) (I.ok.hd hc) i2 b D.l2i2 its2.toArray) hz hTI hTO ⟨h1, p.isList⟩ ⟨h2, p2⟩ hlt1 hlt2 fun v1 v2 h' tk hv1 hv2 z' TO' h1' h2' hT hsz hk => ?_
    have e1 : v1 = u := by
      have hu' : its.toArray[i]? = some u := by simpa using hu
      rw [hu'] at hv1
      exact (Option.some.inj hv1).symm
    have e2 : v2 = u2 := by
      have hu' : its2.toArray[i]? = some u2 := by simpa using hu2
      rw [hu'] at hv2
      exact (Option.some.inj hv2).symm
    subst e1 e2
    refine ⟨_, rfl, wpAny_letOwnedTupleGo_zip (s := { s with heap := h', toks := tk }) z' fun h'' z'' sb => ?_⟩
    have hT2 : h''.get? s.heap.objs.size = some { cls := .type "tuple", data := .seq #[v1, v2] } := (sb.2 _ (Nat.ne_of_gt hzl)).trans hT
    have new : ObjOk X.prog X.w (upd H s.heap.objs.size (.tup [x, y])) h'' s.heap.objs.size (.tup [x, y]) :=
      ⟨by show 2 ≤ sizeLine; decide, [v1, v2], .cons ru (.cons ru2 .nil), ⟨_, hT2, rfl, _, rfl⟩⟩
    have I1 : Inv X pins σ (upd H s.heap.objs.size (.tup [x, y])) { s with heap := h'', toks := tk } :=
      I.turnedNew (t' := tk) (ch := [z, TI, TO, i1, i2]) (fun c o hb q => (sb.2 c (fun q' => hb (by simp [q']))).trans (hk c o (fun q' => hb (by simp [q'])) (fun q' => hb (by simp [q'])) (fun q' => hb (by simp [q'])) (fun q' => hb (by simp [q'])) q)) hf (Nat.le_refl _) new
    refine ⟨.ref s.heap.objs.size, _, I1, rfl, ⟨_, x, y, rfl, I.hok.fresh (Nat.le_refl _), rfl, fun l hl => by rw [I.list_inj hl hqx]; exact hx, fun l hl => by rw [I.tuple_inj hl hqy]; exact hy⟩, ⟨z'', ?_, ⟨v1, v2, ?_⟩, ?_, ?_, ?_, ?_⟩, fun c hcm => ?_⟩
    · exact (sb.2 _ D.TIz).trans (hk _ _ D.TIz D.TITO D.TIi1 D.TIi2 hTI)
    · exact (sb.2 _ D.TOz).trans TO'
    · exact h1'.1.at fun o q => (sb.2 _ D.i1z).trans q
    · exact h2'.1.at fun o q => (sb.2 _ D.i2z).trans q
    · have := (List.getElem?_eq_some_iff.mp hx).1; omega
    · have := (List.getElem?_eq_some_iff.mp hy).1; omega
    · have hlt : c < s.heap.objs.size := by
        have e' : c = z ∨ c = TI ∨ c = TO ∨ c = i1 ∨ c = i2 := by simpa using hcm
        rcases e' with q | q | q | q | q
        · rw [q]; exact hzl
        · rw [q]; exact Heap.lt_size hTI
        · rw [q]; exact Heap.lt_size hTO
        · rw [q]; obtain ⟨_, e1, _⟩ := h1; exact Heap.lt_size e1
        · rw [q]; obtain ⟨_, e2, _⟩ := h2; exact Heap.lt_size e2
      rw [upd_ne (Nat.ne_of_lt hlt)]
      exact (hf c hcm).1
  done := by
    intro X hP hw hK hc i pins s σ H E I hf st hg
    subst hP hw hK
    obtain ⟨hz, hTI, ⟨x0, y0, hTO⟩, h1, h2, hin, him⟩ := st
    obtain ⟨xs, ys, hqx, hqy, hend, hxn, hym⟩ := hg
    obtain ⟨its, rv, p, _⟩ := I.list hqx
    obtain ⟨its2, rv2, p2, _⟩ := I.tuple hqy
    have l1 := rv.length
    have l2 := rv2.length
    have le1 : i ≤ its.toArray.size := by rw [List.size_toArray]; omega
    have le2 : i ≤ its2.toArray.size := by rw [List.size_toArray]; omega
    have he : i = its.toArray.size ∨ i = its2.toArray.size := by
      rw [List.size_toArray, List.size_toArray]
      rcases hend with q | q
      · exact .inl (by omega)
      · exact .inr (by omega)
    exact wpAny_pyNext_zipD2_end (zsep D) (PySem.Draws.list (A := X.A.in1) (I.ok.hd hc) i1 a D.l1i1 its.toArray) (PySem.Draws.tuple (A := X.A.in1) (I.ok.hd hc) i2 b D.l2i2 its2.toArray) hz hTI hTO ⟨h1, p.isList⟩ ⟨h2, p2⟩ le1 le2 he fun h' tk hk => ⟨rfl, I.turnedL (t' := tk) (ch := [z, TI, TO, i1, i2]) (fun c o hb q =>
      hk c o (fun q' => hb (by simp [q'])) (fun q' => hb (by simp [q'])) (fun q' => hb (by simp [q'])) (fun q' => hb (by simp [q'])) q) hf⟩
  self := fun A i s Q E st h => wpAny_pyIter_zip st.1 h
/-- a tuple and a list, the items in new pairs -/
def ItzN (K : Fg) (a b : Addr) (n m : Nat) : It :=
  ⟨fun i H => ∃ (xs ys : List V) (x y : V), SqT K H a xs ∧ SqL K H b ys ∧ xs[i]? = some x ∧ ys[i]? = some y ∧ xs.length = n ∧ ys.length = m,
    fun i H v H' => ∃ T x y, v = .ref T ∧ H T = none ∧ H' = upd H T (.tup [x, y]) ∧ (∀ xs, SqT K H a xs → xs[i]? = some x) ∧ ∀ ys, SqL K H b ys → ys[i]? = some y,
    fun i H => ∃ xs ys : List V, SqT K H a xs ∧ SqL K H b ys ∧ (xs.length ≤ i ∨ ys.length ≤ i) ∧ xs.length = n ∧ ys.length = m⟩
theorem turn_zipN {P : Program} {w : World} {K : Fg} {elts : List Expr} {kk : Nat} {tpos : Pos} {a b z TI TO i1 i2 : Addr} {n m : Nat} (D : ZipApart z TI TO i1 i2 a b) :
    Turn P w K (.Tuple elts kk tpos) (ItzN K a b n m) [z, TI, TO, i1, i2] z (fun i h => IsZip h z TI TO .none ∧ IsPair h TI (.ref i1) (.ref i2) ∧ (∃ x y, IsPair h TO x y) ∧ h.IsTupleIter i1 a i ∧ h.IsListIter i2 b i ∧ i ≤ n ∧ i ≤ m) where
  mem := by simp
  obj := fun i h st c hc => by
    obtain ⟨hz, hTI, ⟨x, y, hTO⟩, ⟨o1, e1, _, d1⟩, ⟨o2, e2, _, d2⟩, _⟩ := st
    have e' : c = z ∨ c = TI ∨ c = TO ∨ c = i1 ∨ c = i2 := by simpa using hc
    rcases e' with q | q | q | q | q
    · rw [q]; exact ⟨_, hz, fun v q => nomatch q⟩
    · rw [q]; exact ⟨_, hTI, fun v q => nomatch q⟩
    · rw [q]; exact ⟨_, hTO, fun v q => nomatch q⟩
    · rw [q]; exact ⟨o1, e1, fun v q => by rw [d1] at q; cases q⟩
    · rw [q]; exact ⟨o2, e2, fun v q => by rw [d2] at q; cases q⟩
  keep := fun i h h' st k => by
    obtain ⟨hz, hTI, ⟨x, y, hTO⟩, h1, h2, h3⟩ := st
    exact ⟨k z (by simp) _ hz, k TI (by simp) _ hTI, ⟨x, y, k TO (by simp) _ hTO⟩, h1.at fun o q => k i1 (by simp) o q, h2.at fun o q => k i2 (by simp) o q, h3⟩
  item := by
    intro X hP hw hK hc i pins s σ H E I hf st hg
    subst hP hw hK
    obtain ⟨hz, hTI, ⟨x0, y0, hTO⟩, h1, h2, hin, him⟩ := st
    obtain ⟨xs, ys, x, y, hqx, hqy, hx, hy, hxn, hym⟩ := hg
    obtain ⟨its, rv, p, _⟩ := I.tuple hqx
    obtain ⟨its2, rv2, p2, _⟩ := I.list hqy
    obtain ⟨u, hu, ru⟩ := rv.get hx
    obtain ⟨u2, hu2, ru2⟩ := rv2.get hy
    have hzl : z < s.heap.objs.size := Heap.lt_size hz
    have hlt1 : i < its.toArray.size := by rw [List.size_toArray]; exact (List.getElem?_eq_some_iff.mp hu).1
    have hlt2 : i < its2.toArray.size := by rw [List.size_toArray]; exact (List.getElem?_eq_some_iff.mp hu2).1
    refine wpAny_pyNext_zipD2_item (zsep D) (PySem.Draws.tuple (A := X.A.in1) (I.ok.hd hc) i1 a D.l1i1 its.toArray) (PySem.Draws.list (A := X.A.in1) (I.ok.hd hc) i2 b D.l2i2 its2.toArray) hz hTI hTO ⟨h1, p⟩ ⟨h2, p2.isList⟩ hlt1 hlt2 fun v1 v2 h' tk hv1 hv2 z' TO' h1' h2' hT hsz hk => ?_
    have e1 : v1 = u := by
      have hu' : its.toArray[i]? = some u := by simpa using hu
      rw [hu'] at hv1
      exact (Option.some.inj hv1).symm
    have e2 : v2 = u2 := by
      have hu' : its2.toArray[i]? = some u2 := by simpa using hu2
      rw [hu'] at hv2
      exact (Option.some.inj hv2).symm
    subst e1 e2
    refine ⟨_, rfl, wpAny_letOwnedTupleGo_zip (s := { s with heap := h', toks := tk }) z' fun h'' z'' sb => ?_⟩
    have hT2 : h''.get? s.heap.objs.size = some { cls := .type "tuple", data := .seq #[v1, v2] } := (sb.2 _ (Nat.ne_of_gt hzl)).trans hT
    have new : ObjOk X.prog X.w (upd H s.heap.objs.size (.tup [x, y])) h'' s.heap.objs.size (.tup [x, y]) :=
      ⟨by show 2 ≤ sizeLine; decide, [v1, v2], .cons ru (.cons ru2 .nil), ⟨_, hT2, rfl, _, rfl⟩⟩
    have I1 : Inv X pins σ (upd H s.heap.objs.size (.tup [x, y])) { s with heap := h'', toks := tk } :=
      I.turnedNew (t' := tk) (ch := [z, TI, TO, i1, i2]) (fun c o hb q => (sb.2 c (fun q' => hb (by simp [q']))).trans (hk c o (fun q' => hb (by simp [q'])) (fun q' => hb (by simp [q'])) (fun q' => hb (by simp [q'])) (fun q' => hb (by simp [q'])) q)) hf (Nat.le_refl _) new
    refine ⟨.ref s.heap.objs.size, _, I1, rfl, ⟨_, x, y, rfl, I.hok.fresh (Nat.le_refl _), rfl, fun l hl => by rw [I.tuple_inj hl hqx]; exact hx, fun l hl => by rw [I.list_inj hl hqy]; exact hy⟩, ⟨z'', ?_, ⟨v1, v2, ?_⟩, ?_, ?_, ?_, ?_⟩, fun c hcm => ?_⟩
    · exact (sb.2 _ D.TIz).trans (hk _ _ D.TIz D.TITO D.TIi1 D.TIi2 hTI)
    · exact (sb.2 _ D.TOz).trans TO'
    · exact h1'.1.at fun o q => (sb.2 _ D.i1z).trans q
    · exact h2'.1.at fun o q => (sb.2 _ D.i2z).trans q
    · have := (List.getElem?_eq_some_iff.mp hx).1; omega
    · have := (List.getElem?_eq_some_iff.mp hy).1; omega
    · have hlt : c < s.heap.objs.size := by
        have e' : c = z ∨ c = TI ∨ c = TO ∨ c = i1 ∨ c = i2 := by simpa using hcm
        rcases e' with q | q | q | q | q
        · rw [q]; exact hzl
        · rw [q]; exact Heap.lt_size hTI
        · rw [q]; exact Heap.lt_size hTO
        · rw [q]; obtain ⟨_, e1, _⟩ := h1; exact Heap.lt_size e1
        · rw [q]; obtain ⟨_, e2, _⟩ := h2; exact Heap.lt_size e2
      rw [upd_ne (Nat.ne_of_lt hlt)]
      exact (hf c hcm).1
  done := by
    intro X hP hw hK hc i pins s σ H E I hf st hg
    subst hP hw hK
    obtain ⟨hz, hTI, ⟨x0, y0, hTO⟩, h1, h2, hin, him⟩ := st
    obtain ⟨xs, ys, hqx, hqy, hend, hxn, hym⟩ := hg
    obtain ⟨its, rv, p, _⟩ := I.tuple hqx
    obtain ⟨its2, rv2, p2, _⟩ := I.list hqy
    have l1 := rv.length
    have l2 := rv2.length
    have le1 : i ≤ its.toArray.size := by rw [List.size_toArray]; omega
    have le2 : i ≤ its2.toArray.size := by rw [List.size_toArray]; omega
    have he : i = its.toArray.size ∨ i = its2.toArray.size := by
      rw [List.size_toArray, List.size_toArray]
      rcases hend with q | q
      · exact .inl (by omega)
      · exact .inr (by omega)
    exact wpAny_pyNext_zipD2_end (zsep D) (PySem.Draws.tuple (A := X.A.in1) (I.ok.hd hc) i1 a D.l1i1 its.toArray) (PySem.Draws.list (A := X.A.in1) (I.ok.hd hc) i2 b D.l2i2 its2.toArray) hz hTI hTO ⟨h1, p⟩ ⟨h2, p2.isList⟩ le1 le2 he fun h' tk hk => ⟨rfl, I.turnedL (t' := tk) (ch := [z, TI, TO, i1, i2]) (fun c o hb q =>
      hk c o (fun q' => hb (by simp [q'])) (fun q' => hb (by simp [q'])) (fun q' => hb (by simp [q'])) (fun q' => hb (by simp [q'])) q) hf⟩
  self := fun A i s Q E st h => wpAny_pyIter_zip st.1 h
def iZipM (K : Fg) (ta : TA) : TI := fun σ H R => ta σ H fun vs H1 => ∃ a b xs ys, vs = [.ref a, .ref b] ∧ ((SqL K H1 a xs ∧ SqL K H1 b ys ∧ R (Itz K a b) H1) ∨ (SqT K H1 a xs ∧ SqT K H1 b ys ∧ R (RZ.ItzT K a b) H1) ∨ (SqL K H1 a xs ∧ SqT K H1 b ys ∧ R (ItzM K a b xs.length ys.length) H1) ∨ (SqT K H1 a xs ∧ SqL K H1 b ys ∧ R (ItzN K a b xs.length ys.length) H1))
theorem pi_zipM {X : Cx} {e e2 : Expr} {ta : TA} {p pos tpos : Pos} {elts : List Expr} {kk : Nat} (hg : Gl X "zip") (hm : X.mg "zip" = none) (ha : PA X [e, e2] ta)
    (hs : starEach [e, e2] X.env = (false, eval e X.env) :: starEach [e2] X.env := by rfl) (hpl : (backTo pos (starEach [e2] X.env)).any (·.1) = false := by rfl) :
    PI X (.Tuple elts kk tpos) (.Call (.Name "zip" p) [e, e2] [] pos) (iZipM X.K ta) := by
  refine ⟨fun pins s σ H R I h => ?_⟩
  refine Call_ (ld_blt I hg hm PyProof.Rows.boot_zip (PyProof.Rows.callWith_type1 (thn (ha.run pos pins s σ H _ I h) fun us s1 ⟨vs, H1, I1, r1, q1⟩ => ?_) hs hpl))
  obtain ⟨a, b, xs, ys, ex, q1⟩ := q1
  subst ex
  cases r1 with
  | cons r rr =>
    cases rr with
    | cons r' rr =>
      cases rr
      cases r
      cases r'
      have fresh5 : ∀ c, c ∈ [s1.heap.objs.size + 4, s1.heap.objs.size + 2, s1.heap.objs.size + 3, s1.heap.objs.size, s1.heap.objs.size + 1] → FpOk X pins H1 c := fun c hcm => by
        have hle : s1.heap.objs.size ≤ c := by
          simp only [List.mem_cons, List.not_mem_nil, or_false] at hcm
          omega
        exact I1.fpOk hle (I1.hok.fresh hle)
      rcases q1 with ⟨hqx, hqy, q⟩ | ⟨hqx, hqy, q⟩ | ⟨hqx, hqy, q⟩ | ⟨hqx, hqy, q⟩
      · obtain ⟨its, rv, p1, _⟩ := I1.list hqx
        obtain ⟨its2, rv2, p2, _⟩ := I1.list hqy
        refine call_zip_2 p1.isList p2.isList fun h' hz hTI hTO h1 h2 hsz hk => wpAny_pyIter_zip hz ?_
        have I2 : Inv X pins σ H1 { s1 with heap := h' } := I1.kept (t' := s1.toks) hk
        exact ⟨s1.heap.objs.size + 4, [s1.heap.objs.size + 4, s1.heap.objs.size + 2, s1.heap.objs.size + 3, s1.heap.objs.size, s1.heap.objs.size + 1], _, _, H1, rfl, I2, turn_zip (PySem.W.ktu_apart s1.heap.objs.size a b p1.lt p2.lt), ⟨hz, hTI, ⟨_, _, hTO⟩, h1, h2⟩, fresh5, q⟩
      · obtain ⟨its, rv, p1, _⟩ := I1.tuple hqx
        obtain ⟨its2, rv2, p2, _⟩ := I1.tuple hqy
        obtain ⟨o1, ho1, _⟩ := id p1
        obtain ⟨o2, ho2, _⟩ := id p2
        refine RZ.call_zipT (show s1.heap.IsTuple a its.toArray from p1) (show s1.heap.IsTuple b its2.toArray from p2) fun h' hz hTI hTO h1 h2 hsz hk => wpAny_pyIter_zip hz ?_
        have I2 : Inv X pins σ H1 { s1 with heap := h' } := I1.kept (t' := s1.toks) hk
        exact ⟨s1.heap.objs.size + 4, [s1.heap.objs.size + 4, s1.heap.objs.size + 2, s1.heap.objs.size + 3, s1.heap.objs.size, s1.heap.objs.size + 1], _, _, H1, rfl, I2, RZ.turn_zipT (PySem.W.ktu_apart s1.heap.objs.size a b (Heap.lt_size ho1) (Heap.lt_size ho2)), ⟨hz, hTI, ⟨_, _, hTO⟩, h1, h2⟩, fresh5, q⟩
      · obtain ⟨its, rv, p1, _⟩ := I1.list hqx
        obtain ⟨its2, rv2, p2, _⟩ := I1.tuple hqy
        obtain ⟨o2, ho2, _⟩ := id p2
        refine call_zipM p1.isList (show s1.heap.IsTuple b its2.toArray from p2) fun h' hz hTI hTO h1 h2 hsz hk => wpAny_pyIter_zip hz ?_
        have I2 : Inv X pins σ H1 { s1 with heap := h' } := I1.kept (t' := s1.toks) hk
        exact ⟨s1.heap.objs.size + 4, [s1.heap.objs.size + 4, s1.heap.objs.size + 2, s1.heap.objs.size + 3, s1.heap.objs.size, s1.heap.objs.size + 1], _, _, H1, rfl, I2, turn_zipM (PySem.W.ktu_apart s1.heap.objs.size a b p1.lt (Heap.lt_size ho2)), ⟨hz, hTI, ⟨_, _, hTO⟩, h1, h2, Nat.zero_le _, Nat.zero_le _⟩, fresh5, q⟩
      · obtain ⟨its, rv, p1, _⟩ := I1.tuple hqx
        obtain ⟨its2, rv2, p2, _⟩ := I1.list hqy
        obtain ⟨o1, ho1, _⟩ := id p1
        refine call_zipN (show s1.heap.IsTuple a its.toArray from p1) p2.isList fun h' hz hTI hTO h1 h2 hsz hk => wpAny_pyIter_zip hz ?_
        have I2 : Inv X pins σ H1 { s1 with heap := h' } := I1.kept (t' := s1.toks) hk
        exact ⟨s1.heap.objs.size + 4, [s1.heap.objs.size + 4, s1.heap.objs.size + 2, s1.heap.objs.size + 3, s1.heap.objs.size, s1.heap.objs.size + 1], _, _, H1, rfl, I2, turn_zipN (PySem.W.ktu_apart s1.heap.objs.size a b (Heap.lt_size ho1) p2.lt), ⟨hz, hTI, ⟨_, _, hTO⟩, h1, h2, Nat.zero_le _, Nat.zero_le _⟩, fresh5, q⟩
end Bk
namespace Bk
open PySem PySem.Spec PyProof.Rows L2
/-! ### as things walked -/
theorem enum_len : ∀ (k : Nat) (ds : List D), (enumFrom k ds).length = ds.length
  | _, [] => rfl
  | k, d :: ds => by rw [enumFrom, List.length_cons, List.length_cons, enum_len (k + 1) ds]
theorem enum_get : ∀ (k : Nat) (ds : List D) (i : Nat) (d : D), ds[i]? = some d → (enumFrom k ds)[i]? = some (.tuple [.int ((k + i : Nat) : Int), d])
  | _, [], _, _, h => by cases h
  | k, x :: ds, 0, d, h => by
    cases h
    rfl
  | k, x :: ds, i + 1, d, h => by
    rw [enumFrom, List.getElem?_cons_succ, enum_get (k + 1) ds i d (by simpa using h), show k + 1 + i = k + (i + 1) by omega]
theorem zip_len : ∀ (xs ys : List D), (zipD xs ys).length = min xs.length ys.length
  | [], ys => by simp [zipD]
  | x :: xs, [] => by simp [zipD]
  | x :: xs, y :: ys => by rw [zipD, List.length_cons, List.length_cons, List.length_cons, zip_len xs ys]; omega
theorem zip_get : ∀ (xs ys : List D) (i : Nat) (x y : D), xs[i]? = some x → ys[i]? = some y → (zipD xs ys)[i]? = some (.tuple [x, y])
  | [], _, _, _, _, h, _ => by cases h
  | _ :: _, [], _, _, _, _, h => by cases h
  | x :: xs, y :: ys, 0, _, _, h, h2 => by
    cases h
    cases h2
    rfl
  | x :: xs, y :: ys, i + 1, a, b, h, h2 => by
    rw [zipD, List.getElem?_cons_succ, zip_get xs ys i a b (by simpa using h) (by simpa using h2)]
section
variable {K : Fg}
/-- a new pair of quiet things -/
theorem new_pair {H : Hp} {p : Addr → Prop} {T : Addr} {v w : V} {d d2 : D} (hp : ∀ b, p b → NT (H b)) (hT : H T = none) (r : Rp K (cutH p H) v d) (r2 : Rp K (cutH p H) w d2) : Rp K (cutH p (upd H T (.tup [v, w]))) (.ref T) (.tuple [d, d2]) := by
  have s : Same (cutH p H) (cutH p (upd H T (.tup [v, w]))) := cutH_same (fun b h => .inl h) (same_new hT)
  exact .tup (.inl (.inl (cutH_some.mpr ⟨fun z => (hp T z).1 hT, upd_same⟩))) (.cons (r.up s) (.cons (r2.up s) .nil))
theorem wlk_enumL {B F : Hp} {a : Addr} {xs : List V} {ds : List D} (h : SqL K B a xs) (r : RpA K F xs ds) (lim : xs.length ≤ 16777216) : Wlk K B F (Ite K a) (enumFrom 0 ds) := by
  have hl := r.len
  refine ⟨by rw [enum_len]; omega, fun i H hi s => ?_, fun H s => ⟨xs, s.seq h, by rw [enum_len]; omega⟩, fun i H x H' hi s y => ?_⟩
  · rw [enum_len] at hi
    exact ⟨xs, _, s.seq h, List.getElem?_eq_getElem (by omega)⟩
  · obtain ⟨T, v, rfl, hT, rfl, hv⟩ := y
    obtain ⟨d, h3, h4⟩ := r.getV (hv xs (s.seq h))
    refine ⟨same_new hT, _, enum_get 0 ds i d h3, fun p hp sf => ?_⟩
    rw [Nat.zero_add]
    exact new_pair hp hT (.int _) (h4.up sf)
theorem wlk_enumT {B F : Hp} {a : Addr} {xs : List V} {ds : List D} (h : SqT K B a xs) (r : RpA K F xs ds) (lim : xs.length ≤ 16777216) : Wlk K B F (IteT K a xs.length) (enumFrom 0 ds) := by
  have hl := r.len
  refine ⟨by rw [enum_len]; omega, fun i H hi s => ?_, fun H s => ⟨xs, sameT s h, by rw [enum_len]; omega, rfl⟩, fun i H x H' hi s y => ?_⟩
  · rw [enum_len] at hi
    exact ⟨xs, _, sameT s h, List.getElem?_eq_getElem (by omega), rfl⟩
  · obtain ⟨T, v, rfl, hT, rfl, hv⟩ := y
    obtain ⟨d, h3, h4⟩ := r.getV (hv xs (sameT s h))
    refine ⟨same_new hT, _, enum_get 0 ds i d h3, fun p hp sf => ?_⟩
    rw [Nat.zero_add]
    exact new_pair hp hT (.int _) (h4.up sf)
theorem wlk_zipL {B F : Hp} {a b : Addr} {xs ys : List V} {ds es : List D} (h : SqL K B a xs) (h' : SqL K B b ys) (r : RpA K F xs ds) (r' : RpA K F ys es) (lim : xs.length ≤ 16777216) : Wlk K B F (Itz K a b) (zipD ds es) := by
  have hl := r.len
  have hl' := r'.len
  refine ⟨by rw [zip_len]; omega, fun i H hi s => ?_, fun H s => ⟨xs, ys, s.seq h, s.seq h', by rw [zip_len]; omega⟩, fun i H x H' hi s y => ?_⟩
  · rw [zip_len] at hi
    exact ⟨xs, ys, _, _, s.seq h, s.seq h', List.getElem?_eq_getElem (by omega), List.getElem?_eq_getElem (by omega)⟩
  · obtain ⟨T, v, w, rfl, hT, rfl, hv, hw⟩ := y
    obtain ⟨d, h3, h4⟩ := r.getV (hv xs (s.seq h))
    obtain ⟨d', h5, h6⟩ := r'.getV (hw ys (s.seq h'))
    exact ⟨same_new hT, _, zip_get ds es i d d' h3 h5, fun p hp sf => new_pair hp hT (h4.up sf) (h6.up sf)⟩
theorem wlk_zipT {B F : Hp} {a b : Addr} {xs ys : List V} {ds es : List D} (h : SqT K B a xs) (h' : SqT K B b ys) (r : RpA K F xs ds) (r' : RpA K F ys es) (lim : xs.length ≤ 16777216) : Wlk K B F (RZ.ItzT K a b) (zipD ds es) := by
  have hl := r.len
  have hl' := r'.len
  refine ⟨by rw [zip_len]; omega, fun i H hi s => ?_, fun H s => ⟨xs, ys, sameT s h, sameT s h', by rw [zip_len]; omega⟩, fun i H x H' hi s y => ?_⟩
  · rw [zip_len] at hi
    exact ⟨xs, ys, _, _, sameT s h, sameT s h', List.getElem?_eq_getElem (by omega), List.getElem?_eq_getElem (by omega)⟩
  · obtain ⟨T, v, w, rfl, hT, rfl, hv, hw⟩ := y
    obtain ⟨d, h3, h4⟩ := r.getV (hv xs (sameT s h))
    obtain ⟨d', h5, h6⟩ := r'.getV (hw ys (sameT s h'))
    exact ⟨same_new hT, _, zip_get ds es i d d' h3 h5, fun p hp sf => new_pair hp hT (h4.up sf) (h6.up sf)⟩
theorem wlk_zipM {B F : Hp} {a b : Addr} {xs ys : List V} {ds es : List D} (h : SqL K B a xs) (h' : SqT K B b ys) (r : RpA K F xs ds) (r' : RpA K F ys es) (lim : xs.length ≤ 16777216) : Wlk K B F (ItzM K a b xs.length ys.length) (zipD ds es) := by
  have hl := r.len
  have hl' := r'.len
  refine ⟨by rw [zip_len]; omega, fun i H hi s => ?_, fun H s => ⟨xs, ys, s.seq h, sameT s h', by rw [zip_len]; omega, rfl, rfl⟩, fun i H x H' hi s y => ?_⟩
  · rw [zip_len] at hi
    exact ⟨xs, ys, _, _, s.seq h, sameT s h', List.getElem?_eq_getElem (by omega), List.getElem?_eq_getElem (by omega), rfl, rfl⟩
  · obtain ⟨T, v, w, rfl, hT, rfl, hv, hw⟩ := y
    obtain ⟨d, h3, h4⟩ := r.getV (hv xs (s.seq h))
    obtain ⟨d', h5, h6⟩ := r'.getV (hw ys (sameT s h'))
    exact ⟨same_new hT, _, zip_get ds es i d d' h3 h5, fun p hp sf => new_pair hp hT (h4.up sf) (h6.up sf)⟩
theorem wlk_zipN {B F : Hp} {a b : Addr} {xs ys : List V} {ds es : List D} (h : SqT K B a xs) (h' : SqL K B b ys) (r : RpA K F xs ds) (r' : RpA K F ys es) (lim : xs.length ≤ 16777216) : Wlk K B F (ItzN K a b xs.length ys.length) (zipD ds es) := by
  have hl := r.len
  have hl' := r'.len
  refine ⟨by rw [zip_len]; omega, fun i H hi s => ?_, fun H s => ⟨xs, ys, sameT s h, s.seq h', by rw [zip_len]; omega, rfl, rfl⟩, fun i H x H' hi s y => ?_⟩
  · rw [zip_len] at hi
    exact ⟨xs, ys, _, _, sameT s h, s.seq h', List.getElem?_eq_getElem (by omega), List.getElem?_eq_getElem (by omega), rfl, rfl⟩
  · obtain ⟨T, v, w, rfl, hT, rfl, hv, hw⟩ := y
    obtain ⟨d, h3, h4⟩ := r.getV (hv xs (sameT s h))
    obtain ⟨d', h5, h6⟩ := r'.getV (hw ys (s.seq h'))
    exact ⟨same_new hT, _, zip_get ds es i d d' h3 h5, fun p hp sf => new_pair hp hT (h4.up sf) (h6.up sf)⟩
end
section
variable {C : Cn}
/-- a thing to be walked, lent or quiet: its cell and its items -/
def tSq (K : Fg) (G : Gh) (lent : Bool) (f : Vn → Rs D) : TE := fun σ H Q => ∃ e d, Mt' K G e σ H ∧ f e = .ok d ∧ ∀ v H', Same H H' → (∀ ds, seqD d = .ok ds → ∃ a xs, v = .ref a ∧ xs.length ≤ 16777216 ∧ RpA K (Fz G e σ H') xs ds ∧
  ((d = .list ds ∧ SqL K H' a xs ∧ SqL K (if lent then H' else Fz G e σ H') a xs) ∨ (d = .tuple ds ∧ SqT K H' a xs ∧ SqT K (if lent then H' else Fz G e σ H') a xs))) → Q v H'
theorem peSq {X : Cx} {T : Tb} {G : Gh} {a : Xp} {x : Expr} {m : Md} (ha : PX C a) (g : Gd X C T) (h : ck T m a x = true) (hm : m ≠ .test) : PE X x (tSq X.K G m.lent? (ev C a)) := by
  cases m with
  | test => exact absurd rfl hm
  | lent =>
    refine peImp (peBd (ha.lent (G := G) g h)) fun σ H Q w => ?_
    obtain ⟨e, d, m, hf, w⟩ := w
    refine ⟨e, d, m, hf, fun v H1 s1 r1 bd => w v H1 s1 fun ds hd => ?_⟩
    obtain ⟨a, xs, rfl, h3, h4⟩ := Rp.seqD (m.up s1) r1 hd
    refine ⟨a, xs, rfl, ?_, h3, ?_⟩
    · rcases h4 with ⟨_, h5⟩ | ⟨_, h5⟩
      · exact (bd a rfl).1 xs h5
      · exact (bd a rfl).2 xs h5
    · rcases h4 with ⟨h4, h5⟩ | ⟨h4, h5⟩
      · exact .inl ⟨h4, h5, h5⟩
      · exact .inr ⟨h4, h5, h5⟩
  | val =>
    refine peImp (peBd (ha.val (G := G) g h)) fun σ H Q w => ?_
    obtain ⟨e, d, m, hf, w⟩ := w
    refine ⟨e, d, m, hf, fun v H1 s1 r1 bd => w v H1 s1 fun ds hd => ?_⟩
    cases d <;> first | (cases hd; done) | skip
    · cases hd
      obtain ⟨a, _, rfl, _, _⟩ := Rb.list (m.up s1) (.inl r1)
      obtain ⟨xs, h3, h4⟩ := frozL r1
      have h5 := cutH_sub.seq h3
      exact ⟨a, xs, rfl, (bd a rfl).1 xs h5, h4, .inl ⟨rfl, h5, h3⟩⟩
    · cases hd
      obtain ⟨a, _, rfl, _, _⟩ := Rb.tup (m.up s1) (.inl r1)
      obtain ⟨xs, h3, h4⟩ := frozT r1
      have h5 := sameT cutH_sub h3
      exact ⟨a, xs, rfl, (bd a rfl).2 xs h5, h4, .inr ⟨rfl, h5, h3⟩⟩
theorem lent_up {K : Fg} {G : Gh} {e : Vn} {σ : Stt} {H H' : Hp} {b : Bool} (s : Same H H') : Same (if b then H else Fz G e σ H) (if b then H' else Fz G e σ H') := by
  cases b with
  | true => exact s
  | false => exact fz_up s
theorem pwEn {a : Xp} (ha : PX C a) : PXw C (.en a) := ⟨fun {X T G md tg x} g q hm => by
  cases x <;> first | (cases q; done) | skip
  rename_i fn ys kw pos
  cases fn <;> first | (cases q; done) | skip
  cases kw with
  | cons _ _ => cases ys with
    | nil => cases q
    | cons _ ys => cases ys <;> cases q
  | nil =>
    cases ys with
    | nil => cases q
    | cons y ys =>
      cases ys with
      | cons _ _ => cases q
      | nil =>
        simp only [ckw, Bool.and_eq_true, decide_eq_true_eq] at q
        obtain ⟨⟨⟨⟨rfl, h2⟩, h3⟩, h4⟩, h5⟩ := q
        cases tg <;> first | (cases h5; done) | skip
        refine piImp (pi_enumA (glOf g h2).1 (g.bl _ (by decide)) (pa_cons (peSq (G := G) ha g h3 hm) pa_nil (star_cons h4)) (star_cons h4)) fun σ H R w => ?_
        obtain ⟨e, ds, m, hf, w⟩ := w
        obtain ⟨d, h5, h6⟩ := Rs.bind_eq_ok (show (ev C a e).bind _ = .ok ds by simpa only [evw] using hf)
        obtain ⟨es, h7, h8⟩ := Rs.bind_eq_ok h6
        cases h8
        refine ⟨e, d, m, h5, fun v H1 s1 z => ?_⟩
        obtain ⟨b, xs, rfl, lim, r, z | z⟩ := z es h7
        · exact ⟨b, xs, rfl, .inl ⟨z.2.1, w _ H1 s1 (wlk_enumL z.2.2 r lim)⟩⟩
        · exact ⟨b, xs, rfl, .inr ⟨z.2.1, w _ H1 s1 (wlk_enumT z.2.2 r lim)⟩⟩⟩
theorem pwZp {a b : Xp} (ha : PX C a) (hb : PX C b) : PXw C (.zp a b) := ⟨fun {X T G md tg x} g q hm => by
  cases x <;> first | (cases q; done) | skip
  rename_i fn ys kw pos
  cases fn <;> first | (cases q; done) | skip
  cases kw with
  | cons _ _ => cases ys with
    | nil => cases q
    | cons _ ys => cases ys with
      | nil => cases q
      | cons _ ys => cases ys <;> cases q
  | nil =>
    cases ys with
    | nil => cases q
    | cons y ys =>
      cases ys with
      | nil => cases q
      | cons z ys =>
        cases ys with
        | cons _ _ => cases q
        | nil =>
          simp only [ckw, Bool.and_eq_true, decide_eq_true_eq] at q
          obtain ⟨⟨⟨⟨⟨⟨rfl, h2⟩, h3⟩, h4⟩, k3⟩, k4⟩, h5⟩ := q
          cases tg <;> first | (cases h5; done) | skip
          refine piImp (pi_zipM (glOf g h2).1 (g.bl _ (by decide)) (pa_cons (peSq (G := G) ha g h3 hm) (pa_cons (peSq (G := G) hb g k3 hm) pa_nil (star_cons k4)) (star_cons h4)) (by rw [star_cons h4]) (by rw [star_cons k4]; rfl)) fun σ H R w => ?_
          obtain ⟨e, ds, m, hf, w⟩ := w
          obtain ⟨d, h5, h6⟩ := Rs.bind_eq_ok (show (ev C a e).bind _ = .ok ds by simpa only [evw] using hf)
          obtain ⟨d2, h9, h10⟩ := Rs.bind_eq_ok h6
          obtain ⟨⟨es, es2⟩, h7, h8⟩ := Rs.bind_eq_ok h10
          cases h8
          refine ⟨e, d, m, h5, fun v H1 s1 z => ⟨e, d2, m.up s1, h9, fun v2 H2 s2 z2 => ?_⟩⟩
          cases d <;> first | (cases h7; done) | skip
          · cases d2 <;> first | (cases h7; done) | skip
            · cases h7
              obtain ⟨b1, xs, rfl, lim, r, z | z⟩ := z _ rfl
              · obtain ⟨b2, xs2, rfl, lim2, r2, z2 | z2⟩ := z2 _ rfl
                · exact ⟨b1, b2, xs, xs2, rfl, .inl ⟨s2.seq z.2.1, z2.2.1, w _ H2 (s1.trans s2) (wlk_zipL ((lent_up (K := X.K) s2).seq z.2.2) z2.2.2 (r.up (fz_up s2)) r2 lim)⟩⟩
                · cases z2.1
              · cases z.1
            · cases h7
              obtain ⟨b1, xs, rfl, lim, r, z | z⟩ := z _ rfl
              · obtain ⟨b2, xs2, rfl, lim2, r2, z2 | z2⟩ := z2 _ rfl
                · cases z2.1
                · exact ⟨b1, b2, xs, xs2, rfl, .inr (.inr (.inl ⟨s2.seq z.2.1, z2.2.1, w _ H2 (s1.trans s2) (wlk_zipM ((lent_up (K := X.K) s2).seq z.2.2) z2.2.2 (r.up (fz_up s2)) r2 lim)⟩))⟩
              · cases z.1
          · cases d2 <;> first | (cases h7; done) | skip
            · cases h7
              obtain ⟨b1, xs, rfl, lim, r, z | z⟩ := z _ rfl
              · cases z.1
              · obtain ⟨b2, xs2, rfl, lim2, r2, z2 | z2⟩ := z2 _ rfl
                · exact ⟨b1, b2, xs, xs2, rfl, .inr (.inr (.inr ⟨sameT s2 z.2.1, z2.2.1, w _ H2 (s1.trans s2) (wlk_zipN (sameT (lent_up (K := X.K) s2) z.2.2) z2.2.2 (r.up (fz_up s2)) r2 lim)⟩))⟩
                · cases z2.1
            · cases h7
              obtain ⟨b1, xs, rfl, lim, r, z | z⟩ := z _ rfl
              · cases z.1
              · obtain ⟨b2, xs2, rfl, lim2, r2, z2 | z2⟩ := z2 _ rfl
                · cases z2.1
                · exact ⟨b1, b2, xs, xs2, rfl, .inr (.inl ⟨sameT s2 z.2.1, z2.2.1, w _ H2 (s1.trans s2) (wlk_zipT (sameT (lent_up (K := X.K) s2) z.2.2) z2.2.2 (r.up (fz_up s2)) r2 lim)⟩)⟩⟩
end
end Bk
/-! E10f: min(xs, key=f), f a def. -/
namespace Bk
open PySem PySem.Spec PyProof.Rows L2
section
variable {X : Cx} {pins : List (Addr × Obj)} {σ : Stt} {H : Hp} {s : Shared}
theorem fp_keep {H2 : Hp} {s2 : Shared} {b : Addr} {o : Obj} (I : Inv X pins σ H s) (u : Un (frs X.stack) [] H H2 s.heap s2.heap) (f : FpOk X pins H b) (e : s.heap.get? b = some o) : s2.heap.get? b = some o ∧ FpOk X pins H2 b := by
  obtain ⟨f0, f1, f2, f3⟩ := f
  have hfr : b ∉ frs X.stack := fun hb => by
    rcases List.mem_cons.mp (I.stkSub b hb) with z | z
    · exact f1 z
    · exact f2 z
  exact ⟨u.keep b o e f0 hfr List.not_mem_nil, u.free b o e f0 List.not_mem_nil, f1, f2, f3⟩
/-- the key of an item is asked -/
theorem key_call {k : Nat} {fa : Addr} {fd : FuncData} {ps : List Str} {f : List D → Rs D} {ban : Addr → Prop} {x : V} {u : Value} {d dk : D} {Q E : Value → Shared → Prop}
    (Fn : FnOk X.prog X.w X.K X.mg X.base CX0 k fa fd ps (spD X.K 1 f)) (hb : Binds X.K fd ps []) (hr : Room (k + 1) X.A) (I : Inv X pins σ H s) (hban : ∀ b, ban b → NT (H b)) (htb : Tabs X.K H) (rx : RelV x u) (rd : Rp X.K (cutH ban H) x d) (hf : f [d] = .ok dk)
    (h : ∀ v w H2 s2, Inv X pins σ H2 s2 → Un (frs X.stack) [] H H2 s.heap s2.heap → Same H H2 → RelV v w → Rp X.K (cutH ban H2) v dk → Q w s2) : wpAny (model X.prog X.w) X.A.in1 (call (.ref fa) [u]) Q E s := by
  have hsp : spD X.K 1 f [x] H (fun v H' => Same H H' ∧ Rp X.K (cutH ban H') v dk) E0 := ⟨rfl, htb, ban, [d], dk, hban, .cons rd .nil, hf, fun v H' s' r' => ⟨s', r'⟩⟩
  have hl : ([u] ++ ([] : List Value)).length = ps.length := Fn.len _ _ _ _ hsp
  have hbind := hb s [u] I.kIn hl
  rw [List.append_nil] at hbind
  refine wpAny_call (codeAny_mono (Fn.run X.A.in1 X.stack s H ⟨[u], []⟩ [u] [x] _ E0 hr.in1 I.env0.in1 hbind (.cons rx .nil) hsp) fun r s' hq => ?_)
  cases r with
  | error e => exact False.elim hq
  | ok fl =>
    cases fl with
    | ret w =>
      obtain ⟨v, H2, os, bare, un, hok, rv, sm, rp⟩ := (show CE X.stack X.prog X.w H s _ w s' from hq)
      exact h v w H2 s' (I.call' os un hok bare fun b y => absurd y List.not_mem_nil) un sm rv rp
    | next => exact False.elim hq
    | brk => exact False.elim hq
    | cont => exact False.elim hq
theorem mk_loop {k : Nat} {fa l it S : Addr} {fd : FuncData} {ps : List Str} {f : List D → Rs D} {ban : Addr → Prop} {B : Hp} {xs : List V} {ds : List D} {d : D} {kw : List (Str × Value)} {R : Result → Shared → Prop}
    (hc : X.calm = true) (hu : X.A.units + 64 < cLine) (Fn : FnOk X.prog X.w X.K X.mg X.base CX0 k fa fd ps (spD X.K 1 f)) (hb : Binds X.K fd ps []) (hr : Room (k + 1) X.A) (hl : SqL X.K B l xs) (htb : Tabs X.K B) (hban : ∀ b, ban b → NT (B b)) (rds : RpA X.K (cutH ban B) xs ds)
    (iS : it ≠ S) (hli : l ≠ it) (hlS : l ≠ S)
    (hR : ∀ v V H' s', Inv X pins σ H' s' → Same B H' → RelV V v → Rp X.K (cutH ban H') V d → R (.ok (.ret v)) s') :
    ∀ (r : List D) (i : Nat) (s : Shared) (H : Hp) (vb kb : Value) (xb kv : V) (db dk : D) (c : Nat), ds.drop i = r → i ≤ ds.length → Same B H → Inv X pins σ H s → s.heap.IsListIter it l i → s.heap.get? S = some { cls := .type "list", dict := none, data := .seq #[vb, kb] c, slots := #[] } →
      RelV xb vb → Rp X.K (cutH ban H) xb db → RelV kv kb → Rp X.K (cutH ban H) kv dk → FpOk X pins H it → FpOk X pins H S → mnkR f db dk r = .ok d → codeAny (model X.prog X.w) X.A (.builtin "min.loop" ⟨[.ref it, .ref fa, .ref S], kw⟩) R s
  | [], i, s, H, vb, kb, xb, kv, db, dk, c, hd, hi, sm, I, hit, hS, rxb, rpb, rkb, rpk, fi, fS, hm => by
    have hh : X.A.handled = none := I.ok.hd hc
    have hn := rds.len
    have hin : ds.length ≤ i := by
      have e := congrArg List.length hd
      rw [List.length_drop] at e
      have e2 : ds.length - i = 0 := e
      omega
    obtain ⟨its, rv, pl, _⟩ := I.list (sm.seq hl)
    have hsz : its.length = xs.length := rv.length.symm
    have hnone : its.toArray[i]? = none := by simp; omega
    have Wl := pl.isList
    refine codeAny_builtin F.entry_min_loop ?_
    rw [Around.under_plainId F.plain_min_loop _]
    show wpAny _ X.A.in1 (seqItems? (.ref S) >>= _) _ _ s
    refine wpAny_bind (wpAny_seqItems hS rfl ?_)
    show wpAny _ X.A.in1 (tryCatch (pyNext (.ref it)) _ >>= _) _ _ s
    refine wpAny_bind (wpAny_tryCatch (wpAny_pyNext_list_end hh hit Wl hnone fun h' he => ?_))
    have hS' : h'.get? S = some { cls := .type "list", dict := none, data := .seq #[vb, kb] c, slots := #[] } := he S _ (Ne.symm iS) hS
    have I1 : Inv X pins σ H { s with heap := h' } := I.turnedL (ch := [it]) (t' := s.toks) (fun b o hb e => he b o (fun z => hb (by simp [z])) e) fun b hb => by rw [List.mem_singleton.mp hb]; exact fi
    show wpAny _ X.A.in1 (updateSeq S (fun _ => #[]) >>= _) _ _ _
    refine wpAny_bind ?_
    refine wpAny_updateSeq hS' rfl (wpAny_bind (wpAny_letGo (wpAny_pure ?_)))
    cases hm
    refine hR vb xb H _ (I1.turnedL (ch := [S]) (t' := s.toks) (fun b o hb e => ?_) fun b hb => by rw [List.mem_singleton.mp hb]; exact fS) sm rxb rpb
    exact (Heap.get?_update_other _ _ (fun z => hb (by simp [z]))).trans e
  | x :: r, i, s, H, vb, kb, xb, kv, db, dk, c, hd, hi, sm, I, hit, hS, rxb, rpb, rkb, rpk, fi, fS, hm => by
    have hh : X.A.handled = none := I.ok.hd hc
    have hn := rds.len
    have hname : (toString "min" ++ toString ".loop" : String) = "min.loop" := by decide
    have hlt : i < ds.length := by
      rcases Nat.lt_or_ge i ds.length with z | z
      · exact z
      · rw [List.drop_eq_nil_of_le z] at hd
        exact (nomatch hd)
    have hxi : ds[i]? = some x := by
      have e : (ds.drop i)[0]? = (x :: r)[0]? := by rw [hd]
      rw [List.getElem?_drop] at e
      exact e
    have hdr : ds.drop (i + 1) = r := by
      have e := congrArg (List.drop 1) hd
      rw [List.drop_drop] at e
      exact e
    obtain ⟨xv, hxv, rxd⟩ := rds.get hxi
    obtain ⟨its, rv, pl, _⟩ := I.list (sm.seq hl)
    obtain ⟨u, hu2, rxu⟩ := rv.get hxv
    have hbanH : ∀ b, ban b → NT (H b) := fun b z => (hban b z).up sm
    have cs : Same (cutH ban B) (cutH ban H) := cutH_same (fun b z => .inl z) sm
    obtain ⟨kx, hk, hm⟩ := Rs.bind_eq_ok (show (f [x]).bind _ = .ok d from hm)
    obtain ⟨cc, hle, hm⟩ := Rs.bind_eq_ok hm
    refine codeAny_builtin F.entry_min_loop ?_
    rw [Around.under_plainId F.plain_min_loop _]
    show wpAny _ X.A.in1 (seqItems? (.ref S) >>= _) _ _ s
    refine wpAny_bind (wpAny_seqItems hS rfl ?_)
    show wpAny _ X.A.in1 (tryCatch (pyNext (.ref it)) _ >>= _) _ _ s
    refine wpAny_bind (wpAny_tryCatch (wpAny_pyNext_list_item hit pl.isList (x := u) (by simpa using hu2) fun h1 hit1 hs1 => ?_))
    have hS1 : h1.get? S = some { cls := .type "list", dict := none, data := .seq #[vb, kb] c, slots := #[] } := hs1.extBut _ _ (Ne.symm iS) hS
    have I1 : Inv X pins σ H { s with heap := h1 } := I.turnedL (ch := [it]) (t' := s.toks) (fun b o hb e => hs1.extBut b o (fun z => hb (by simp [z])) e) fun b hb => by rw [List.mem_singleton.mp hb]; exact fi
    show wpAny _ X.A.in1 (tryCatch (holding [u] (call (.ref fa) [u])) _ >>= _) _ _ _
    refine wpAny_bind (wpAny_tryCatch (wpAny_holding (key_call Fn hb hr I1 hbanH (htb.up sm) rxu (rxd.up cs) hk fun kv2 kw2 H2 s2 I2 un2 sm2 rk2 rpk2 => ?_)))
    obtain ⟨hS2, fS2⟩ := fp_keep I1 un2 fS hS1
    obtain ⟨oi, hoi, hci, hdi⟩ := hit1
    obtain ⟨hi2, fi2⟩ := fp_keep I1 un2 fi hoi
    have hit2 : s2.heap.IsListIter it l (i + 1) := ⟨oi, hi2, hci, hdi⟩
    have cs2 : Same (cutH ban H) (cutH ban H2) := cutH_same (fun b z => .inl z) sm2
    obtain ⟨sd, se, hal, hnn, hcc⟩ := lessD_ok hle
    have hlt2 : PySem.SeqAt.RcLt X.A.in1 s2 kw2 kb (PySem.W.dataLt kx dk) := by
      obtain ⟨as, r1⟩ := Dp.reads I2 kx kv2 kw2 ((rpk2.up cutH_sub).dp (shp_plain 12 kx sd)) rk2
      obtain ⟨bs, r2⟩ := Dp.reads I2 dk kv kb (((rpk.up cs2).up cutH_sub).dp (shp_plain 12 dk se)) rkb
      have := shp_depth 12 kx sd
      exact PySem.W.rcLt_alike kx dk X.A.in1 s2 kw2 kb as bs r1 r2 hal hnn (by show X.A.units + 1 + _ < _; omega)
    show wpAny _ X.A.in1 (tryCatch (holding [u, kw2] (richCompare .Lt kw2 kb >>= _)) _ >>= _) _ _ _
    refine wpAny_bind (wpAny_tryCatch (wpAny_holding (wpAny_bind (hlt2 X.prog X.w _ _ ?_))))
    refine wpAny_bind (wpAny_holding (wpAny_truthy_bool ?_))
    refine wpAny_bind (wpAny_letGo (wpAny_pure ?_))
    rw [← hcc]
    cases cc with
    | true =>
      simp only [if_true]
      refine wpAny_bind ?_
      refine wpAny_updateSeq hS2 rfl (wpAny_bind (wpAny_letGo ?_))
      rw [hname]
      have I3 : Inv X pins σ H2 { s2 with heap := s2.heap.update S (Obj.mapSeq fun _ => #[u, kw2]) } := I2.turnedL (ch := [S]) (t' := s2.toks) (fun b o hb e => (Heap.get?_update_other _ _ (fun z => hb (by simp [z]))).trans e) fun b hb => by rw [List.mem_singleton.mp hb]; exact fS2
      refine wpAny_pure ⟨plainId_quiet F.plain_min_loop _, mk_loop hc hu Fn hb hr hl htb hban rds iS hli hlS hR r (i + 1) _ H2 u kw2 xv kv2 x kx _ hdr hlt (sm.trans sm2) I3 ⟨oi, (Heap.get?_update_other _ _ (Ne.symm iS)).trans hi2, hci, hdi⟩ (Heap.get?_update_self _ hS2 rfl) rxu ((rxd.up cs).up cs2) rk2 rpk2 fi2 fS2 hm⟩
    | false =>
      simp only [Bool.false_eq_true, if_false]
      refine wpAny_bind (wpAny_letGo ?_)
      rw [hname]
      exact wpAny_pure ⟨plainId_quiet F.plain_min_loop _, mk_loop hc hu Fn hb hr hl htb hban rds iS hli hlS hR r (i + 1) _ H2 vb kb xb kv db dk _ hdr hlt (sm.trans sm2) I2 hit2 hS2 rxb (rpb.up cs2) rkb (rpk.up cs2) fi2 fS2 hm⟩
end
def rMnk (K : Fg) (fa : Addr) (f : List D → Rs D) : List V → List V → Hp → VK → Prop := fun xs zs H Q => ∃ p vs ds ban d, xs = [.ref p] ∧ zs = [.ref fa] ∧ SqL K H p vs ∧ Tabs K H ∧ (∀ b, ban b → NT (H b)) ∧ RpA K (cutH ban H) vs ds ∧ mnkD f (.list ds) = .ok d ∧ ∀ v H', Same H H' → Rp K (cutH ban H') v d → Q v H'
section
variable {X : Cx} {C : Cn} {T : Tb} {G : Gh}
theorem cr_mnk {k : Nat} {fa : Addr} {fd : FuncData} {ps : List Str} {f : List D → Rs D} (hc : X.calm = true) (hu : X.A.units + 64 < cLine) (Fn : FnOk X.prog X.w X.K X.mg X.base CX0 k fa fd ps (spD X.K 1 f)) (hb : Binds X.K fd ps []) (hr : Room (k + 1) X.A) : CallRK X (.builtin "min") ["key"] (rMnk X.K fa f) := by
  intro pins s σ H xs zs us ws Q I rx rz h
  obtain ⟨p, vs, ds, ban, d, rfl, rfl, hs, htb, hban, rds, hm, q⟩ := h
  rw [Vals.ref1 rx, Vals.ref1 rz]
  have hh : X.A.handled = none := I.ok.hd hc
  have hname : (toString "min" ++ toString ".loop" : String) = "min.loop" := by decide
  cases ds with
  | nil => cases hm
  | cons d0 ds =>
  obtain ⟨k0, hk, hm⟩ := Rs.bind_eq_ok (show (f [d0]).bind _ = .ok d from hm)
  obtain ⟨its, rv, pl, _⟩ := I.list hs
  have hpl : p < s.heap.objs.size := by obtain ⟨o, ho, _⟩ := pl.isList; exact Heap.lt_size ho
  cases vs with
  | nil => cases rds
  | cons v0 vs =>
  obtain ⟨u, hu2, rxu⟩ := rv.get (i := 0) (x := v0) rfl
  have rxd : Rp X.K (cutH ban H) v0 d0 := by cases rds; assumption
  refine PyProof.Rows.kmk_tree PySem.F.kind_min PySem.F.plain_min PySem.F.entry_min (PyProof.Rows.kmk_min_key _ _) ?_
  show wpAny _ X.A.in1 (Builtin.Builtins.bindParams "min" ["key", "default"] 0 ⟨[], [(Str.ofString "key", .ref fa)]⟩ >>= _) _ _ s
  refine wpAny_bind (wpAny_of_eq (show Builtin.Builtins.bindParams "min" ["key", "default"] 0 ⟨[], [(Str.ofString "key", .ref fa)]⟩ = pure [some (.ref fa), none] from rfl) ?_)
  refine wpAny_bind (wpAny_pure ?_)
  refine wpAny_bind (wpAny_pyIter_list pl.isList ?_)
  refine wpAny_bind (wpAny_newObj_type ?_)
  rw [hname]
  generalize e1 : s.heap.push { cls := .type "list_iterator", data := .fields #[.ref p, .int 0 0] } = h1
  have sz1 : h1.objs.size = s.heap.objs.size + 1 := by rw [← e1]; exact Heap.size_push ..
  have k1 : ∀ b o, s.heap.get? b = some o → h1.get? b = some o := fun b o e => by rw [← e1]; exact Heap.get?_push_of_some _ e
  have hit : h1.IsListIter s.heap.objs.size p 0 := by rw [← e1]; exact ⟨_, Heap.get?_push_size _ rfl, rfl, rfl⟩
  have I1 : Inv X pins σ H { s with heap := h1 } := I.kept (t' := s.toks) k1
  generalize e2 : h1.push { cls := .type "list", data := .seq #[] 0 } = h2
  have k2 : ∀ b o, h1.get? b = some o → h2.get? b = some o := fun b o e => by rw [← e2]; exact Heap.get?_push_of_some _ e
  have hS : h2.get? h1.objs.size = some { cls := .type "list", dict := none, data := .seq #[] 0, slots := #[] } := by rw [← e2]; exact Heap.get?_push_size _ rfl
  have I2 : Inv X pins σ H { s with heap := h2 } := I1.kept (t' := s.toks) k2
  have fi : FpOk X pins H s.heap.objs.size := I.fpOk (Nat.le_refl _) I.fresh
  have fS : FpOk X pins H h1.objs.size := I1.fpOk (Nat.le_refl _) I1.fresh
  have iS : s.heap.objs.size ≠ h1.objs.size := by rw [sz1]; exact Nat.ne_of_lt (Nat.lt_succ_self _)
  have hli : p ≠ s.heap.objs.size := Nat.ne_of_lt hpl
  have hlS : p ≠ h1.objs.size := by rw [sz1]; exact Nat.ne_of_lt (Nat.lt_succ_of_lt hpl)
  obtain ⟨oi, hoi, hci, hdi⟩ := hit
  have hit2 : h2.IsListIter s.heap.objs.size p 0 := ⟨oi, k2 _ _ hoi, hci, hdi⟩
  obtain ⟨its2, rv2, pl2, _⟩ := I2.list hs
  obtain ⟨u, hu2, rxu⟩ := rv2.get (i := 0) (x := v0) rfl
  generalize h1.objs.size = S at hS fS iS hlS
  generalize s.heap.objs.size = it at hoi fi iS hli hit2
  refine wpAny_pure ⟨plainId_quiet PySem.F.plain_min_loop _, ?_⟩
  refine codeAny_builtin PySem.F.entry_min_loop ?_
  rw [Around.under_plainId PySem.F.plain_min_loop _]
  show wpAny _ X.A.in1 (seqItems? (.ref S) >>= _) _ _ _
  refine wpAny_bind (wpAny_seqItems hS rfl ?_)
  show wpAny _ X.A.in1 (tryCatch (pyNext (.ref it)) _ >>= _) _ _ _
  refine wpAny_bind (wpAny_tryCatch (wpAny_pyNext_list_item hit2 pl2.isList (x := u) (by simpa using hu2) fun h3 hit3 hs3 => ?_))
  have hS3 : h3.get? S = some { cls := .type "list", dict := none, data := .seq #[] 0, slots := #[] } := hs3.extBut _ _ (Ne.symm iS) hS
  have I3 : Inv X pins σ H { ({ s with heap := h2 } : Shared) with heap := h3 } := I2.turnedL (ch := [it]) (t' := s.toks) (fun b o hb e => hs3.extBut b o (fun z => hb (by simp [z])) e) fun b hb => by rw [List.mem_singleton.mp hb]; exact fi
  show wpAny _ X.A.in1 (tryCatch (holding [u] (call (.ref fa) [u])) _ >>= _) _ _ _
  refine wpAny_bind (wpAny_tryCatch (wpAny_holding (key_call Fn hb hr I3 hban htb rxu rxd hk fun kv2 kw2 H2 s2 J2 un2 sm2 rk2 rpk2 => ?_)))
  obtain ⟨hS4, fS4⟩ := fp_keep I3 un2 fS hS3
  obtain ⟨oj, hoj, hcj, hdj⟩ := hit3
  obtain ⟨hi4, fi4⟩ := fp_keep I3 un2 fi hoj
  have cs2 : Same (cutH ban H) (cutH ban H2) := cutH_same (fun b z => .inl z) sm2
  show wpAny _ X.A.in1 (updateSeq S (fun _ => #[u, kw2]) >>= _) _ _ _
  refine wpAny_bind ?_
  refine wpAny_updateSeq hS4 rfl ?_
  rw [hname]
  have J3 : Inv X pins σ H2 { s2 with heap := s2.heap.update S (Obj.mapSeq fun _ => #[u, kw2]) } := J2.turnedL (ch := [S]) (t' := s2.toks) (fun b o hb e => (Heap.get?_update_other _ _ (fun z => hb (by simp [z]))).trans e) fun b hb => by rw [List.mem_singleton.mp hb]; exact fS4
  exact wpAny_pure ⟨plainId_quiet PySem.F.plain_min_loop _, mk_loop hc hu Fn hb hr hs htb hban rds iS hli hlS (fun v V H' s' J sm rv rp => ⟨V, H', J, rv, q V H' sm rp⟩) ds 1 _ H2 u kw2 v0 kv2 d0 k0 _ rfl (by simp) sm2 J3 ⟨oj, (Heap.get?_update_other _ _ (Ne.symm iS)).trans hi4, hcj, hdj⟩ (Heap.get?_update_self _ hS4 rfl) rxu (rxd.up cs2) rk2 rpk2 fi4 fS4 hm⟩
theorem mnkKey {j : Nat} {a : Xp} {x : Expr} {m : Md} (q : ck T m (.mnk j a) x = true) : ∃ n p y k f fp kp pos, x = .Call (.Name n p) [y] [⟨some k, .Name f fp, kp⟩] pos ∧ n = ("min" : Str) ∧ glB T.sc n = true ∧ ck T .lent a y = true ∧ notStar y = true ∧ k = ("key" : Str) ∧ glB T.sc f = true ∧ T.fns[j]? = some (f, 1) := by
  unfold ck at q
  split at q
  · simp only [Bool.and_eq_true, decide_eq_true_eq] at q
    obtain ⟨⟨⟨⟨⟨⟨h1, h2⟩, h3⟩, h4⟩, h5⟩, h6⟩, h7⟩ := q
    exact ⟨_, _, _, _, _, _, _, _, rfl, h1, h2, h3, h4, h5, h6, h7⟩
  · cases q
theorem pMnk {a : Xp} (j : Nat) (ha : PX C a) : PX C (.mnk j a) := lift (fun {X T G x} g q => by
    obtain ⟨n, p, y, k, f, fp, kp, pos, rfl, h1, h2, h3, h4, h5, h6, h7⟩ := mnkKey q
    subst h1
    subst h5
    obtain ⟨lv, fa, fd, ps, k1, k2, k3, k4, k5⟩ := (g.fn j f 1 h7).ex
    have key : PE X (.Call (.Name "min" p) [y] [⟨some ("key" : Str), .Name f fp, kp⟩] pos) (tCKw (rMnk X.K fa (C.fn j)) (tCons (tB X.K G (ev C a)) tNil) (tCons (tC (.ref fa)) tNil)) :=
      pe_callBK (cr_mnk g.calm g.un k3 k5 (k4.mono (Nat.add_le_add_left (by cases T.gx <;> decide) lv))) (glOf g h2).1 (g.bl _ (by decide)) (boot_bi .min) (pa_cons (ha.lent (G := G) g h3) pa_nil (star_cons h4)) (pk_cons (pe_glob (glOf g h6).1 k1 rfl (glOf g h6).2) pk_nil) (by decide) (by decide) (by rw [star_cons h4]; rfl) (by rw [star_cons h4]; rfl)
    refine peImp key fun σ H Q w => ?_
    obtain ⟨e, dr, m, hf, w⟩ := w
    obtain ⟨dx, h8, h9⟩ := Rs.bind_eq_ok (show (ev C a e).bind _ = .ok dr by simpa only [ev] using hf)
    refine ⟨e, dx, m, h8, fun v H1 s1 r1 => ?_⟩
    have m1 := m.up s1
    cases dx <;> first | (cases h9; done) | skip
    obtain ⟨b, xs, rfl, h10, h11⟩ := r1.list m1
    exact ⟨b, xs, _, fun b => G.ban b ∨ Own e σ b, dr, rfl, rfl, h10, m1.tab, fun b hb => hb.elim (m1.ban b) fun z => m1.ownThere z, h11, h9, fun v' H' s' r' => w v' H' (s1.trans s') r'⟩) (fun _ x => by
      unfold ck
      rfl) (fun _ x => by
      unfold ck
      rfl) fun T x h => by
      obtain ⟨n, p, y, k, f, fp, kp, pos, rfl, _⟩ := mnkKey h
      rfl
end
end Bk
/-! E10g: a walk over the keys of a dict with tuple keys. -/
namespace Bk
open PySem PySem.Spec PyProof.Rows L2
theorem rp_keysA {K : Fg} {F : Hp} : ∀ ks : List Key, RpA K F (ks.map kV) (ks.map kD)
  | [] => .nil
  | .inl i :: ks => .cons (.int i) (rp_keysA ks)
  | .inr x :: ks => .cons (.str x) (rp_keysA ks)
theorem rpT_get {K : Fg} {F : Hp} : ∀ {kvs : List (List Key × V)} {ps : List (D × D)} {i : Nat} {k : List Key} {v : V}, RpT K F kvs ps → kvs[i]? = some (k, v) → (ps.map (·.1))[i]? = some (.tuple (k.map kD))
  | _, _, _, _, _, .nil, h => by simp at h
  | _, _, 0, _, _, .cons r rs, h => by
    simp at h
    obtain ⟨rfl, rfl⟩ := h
    rfl
  | _, _, i + 1, k, v, .cons r rs, h => by
    have := rpT_get (i := i) (k := k) (v := v) rs (by simpa using h)
    simpa using this
theorem wlk_keysT {K : Fg} {B F : Hp} {a : Addr} {o : Obj} {kvs : List (List Key × V)} {ps : List (D × D)} (h : B a = some (.frz o (.dT kvs))) (r : RpT K F kvs ps) (lim : kvs.length ≤ 16777216) : Wlk K B F (Itkt a o kvs) (ps.map (·.1)) := by
  have hl := rpT_len r
  refine ⟨by rw [List.length_map]; omega, fun i H hi s => ?_, fun H s => ?_, fun i H x H' hi s y => ?_⟩
  · rw [List.length_map] at hi
    exact ⟨s.is h ntF, by omega⟩
  · rw [List.length_map]
    exact ⟨s.is h ntF, by omega⟩
  · obtain ⟨rfl, k, v, q, h1, rfl, h2⟩ := y
    exact ⟨Same.refl _, _, rpT_get r h1, fun p hp _ => .tup (.inl (.inl (cutH_some.mpr ⟨fun z => (hp q z).2 _ h2, h2⟩))) (rp_keysA k)⟩
section
variable {X : Cx} {C : Cn} {T : Tb} {G : Gh}
theorem peBdT {x : Expr} {t : TE} (h : PE X x t) : PE X x (fun σ H Q => t σ H fun v H' => (∀ a o kvs, v = .ref a → H' a = some (.frz o (.dT kvs)) → kvs.length ≤ 16777216) → Q v H') := ⟨fun pins s σ H Q I q => thn (h.run pins s σ H _ I q) fun u s' ⟨v, H', I', r, q'⟩ =>
  ⟨v, H', I', r, q' fun a o kvs _ e => by
    obtain ⟨_, z, _⟩ := I'.hok a _ e
    rw [sl16] at z
    exact z⟩⟩
theorem pwDk {a : Xp} (ha : PX C a) : PXw C (.dk a) := ⟨fun {X T G md tg x} g q hm => by
  have key : ∀ b, PI X tg x (tW X.K G b (evw C (.dk a))) := fun b => by
    refine piImp (pi_keys (peBdT (ha.val (G := G) g q))) fun σ H R w => ?_
    obtain ⟨e, ds, m, hf, w⟩ := w
    obtain ⟨d, h1, h2⟩ := Rs.bind_eq_ok (show (ev C a e).bind keysD = .ok ds by simpa only [evw] using hf)
    refine ⟨e, d, m, h1, fun v H1 s1 r1 bd => ?_⟩
    cases r1 with
    | dK hh rr =>
      exfalso
      cases rr with
      | nil => cases h2
      | cons r rs =>
        rename_i k _ _ _ _
        cases k <;> cases h2
    | dT hh rr =>
      cases h2
      have h5 := cutH_sub.is hh ntF
      refine ⟨_, _, rfl, .inr ⟨_, h5, w _ H1 s1 ?_⟩⟩
      cases b with
      | true => exact wlk_keysT h5 rr (bd _ _ _ rfl h5)
      | false => exact wlk_keysT hh rr (bd _ _ _ rfl h5)
    | _ => cases h2
  exact key _⟩
end
end Bk
/-! G1: generators are never lost. -/
namespace Bk
open PySem PySem.Spec PyProof.Rows L2
theorem setGen_size (s : Shared) (g : Nat) (x : GenState) : (s.setGen g x).gens.size = s.gens.size := by simp [Shared.setGen]
theorem runs_gens {M : Model} {Γ : PySem.Ctx} {p : Pos} {t : Sem Fin} {fs : List Frame} {s : Shared} {e : End} {s' : Shared} (h : Runs M Γ p t fs s e s') : s.gens.size ≤ s'.gens.size := by
  induction h with
  | done => exact Nat.le_refl _
  | raise => exact Nat.le_refl _
  | yield => exact Nat.le_refl _
  | newGen _ ih =>
    refine Nat.le_trans ?_ ih
    show _ ≤ (Array.push _ _).size
    rw [Array.size_push]
    exact Nat.le_succ _
  | call _ _ i1 i2 => exact Nat.le_trans i1 i2
  | segRet _ _ i1 i2 => exact Nat.le_trans i1 i2
  | resumeFresh _ _ _ _ i1 i2 => rw [setGen_size] at i1 i2; exact Nat.le_trans i1 i2
  | resumeSuspended _ _ _ _ i1 i2 => rw [setGen_size] at i1 i2; exact Nat.le_trans i1 i2
  | resumeThrowFresh _ _ ih => rw [setGen_size] at ih; exact ih
  | segGen _ _ i1 i2 => rw [setGen_size] at i2; exact Nat.le_trans i1 i2
  | segSuspGen _ _ _ _ i1 i2 => rw [setGen_size] at i2; exact Nat.le_trans i1 i2
  | _ => assumption
theorem wakes_gens {M : Model} {Γ : PySem.Ctx} {p : Pos} {g : Nat} {r : Resume} {s s' : Shared} {res : GenResult} (h : Wakes M Γ p g r s res s') : s.gens.size ≤ s'.gens.size := by
  unfold Wakes at h
  split at h
  · exact h.elim
  · split at h
    · obtain ⟨e1, s1, h1, _, _, rfl⟩ := h
      have := runs_gens h1
      rw [setGen_size] at this ⊢
      exact this
    · obtain ⟨_, rfl⟩ := h
      exact Nat.le_refl _
    · obtain ⟨_, rfl⟩ := h
      rw [setGen_size]
      exact Nat.le_refl _
  · obtain ⟨e1, s1, h1, _, _, rfl⟩ := h
    have := runs_gens h1
    rw [setGen_size] at this ⊢
    exact this
  · obtain ⟨_, rfl⟩ := h
    exact Nat.le_refl _
  · obtain ⟨_, rfl⟩ := h
    exact Nat.le_refl _
theorem wp_gens {α : Type} {M : Model} {Γ : PySem.Ctx} (t : Sem α) : ∀ {Q : α → Pos → Shared → Prop} {E : Value → Pos → Shared → Prop} {p : Pos} {s : Shared}, Sem.wp M Γ t Q E p s →
    Sem.wp M Γ t (fun a p' s' => Q a p' s' ∧ s.gens.size ≤ s'.gens.size) (fun e p' s' => E e p' s' ∧ s.gens.size ≤ s'.gens.size) p s := by
  have mono : ∀ {t : Sem α} {Q Q' : α → Pos → Shared → Prop} {E E' : Value → Pos → Shared → Prop} {p : Pos} {s : Shared}, Sem.wp M Γ t Q E p s → (∀ a p s, Q a p s → Q' a p s) → (∀ a p s, E a p s → E' a p s) → Sem.wp M Γ t Q' E' p s := fun h a b => Sem.wp_mono _ _ _ a b _ _ h
  induction t with
  | pure a => intro Q E p s h; exact ⟨h, Nat.le_refl _⟩
  | raise a => intro Q E p s h; exact ⟨h, Nat.le_refl _⟩
  | unsupported what => intro Q E p s h; exact h.elim
  | finish x => intro Q E p s h; exact h.elim
  | register a k => intro Q E p s h; exact h.elim
  | yield v g l k => intro Q E p s h; exact h.elim
  | fork c k => intro Q E p s h; exact h.elim
  | await a f d l k => intro Q E p s h; exact h.elim
  | rule tag k ih => intro Q E p s h; exact ih () h
  | «at» p' k ih => intro Q E p s h; exact ih () h
  | load a part k ih => intro Q E p s h; obtain ⟨o, ho, h⟩ := h; exact ⟨o, ho, ih o h⟩
  | update a part f k ih => intro Q E p s h; exact ⟨h.1, ih () h.2⟩
  | alloc o k ih => intro Q E p s h; exact ih _ h
  | loadIfAlive a k ih => intro Q E p s h; exact ih _ h
  | point l k ih => intro Q E p s h; exact ih () h
  | fresh k ih => intro Q E p s h; exact ih _ h
  | ask k ih => intro Q E p s h; exact ih _ h
  | choose src n k ih => intro Q E p s h; exact ⟨h.1, ih _ h.2⟩
  | os q l k ih => intro Q E p s h; exact ih _ h
  | call c hh g l k ih =>
    intro Q E p s h
    obtain ⟨r, s1, hr, h⟩ := h
    have l1 : s.gens.size ≤ s1.gens.size := runs_gens hr
    exact ⟨r, s1, hr, mono (ih r h) (fun a p s q => ⟨q.1, Nat.le_trans l1 q.2⟩) fun a p s q => ⟨q.1, Nat.le_trans l1 q.2⟩⟩
  | handled own k ih => intro Q E p s h; exact ih _ h
  | newGen c k ih =>
    intro Q E p s h
    have l1 : s.gens.size ≤ (s.gens.push (GenState.fresh c)).size := by rw [Array.size_push]; exact Nat.le_succ _
    exact mono (ih _ h) (fun a p s q => ⟨q.1, Nat.le_trans l1 q.2⟩) fun a p s q => ⟨q.1, Nat.le_trans l1 q.2⟩
  | genState g k ih => intro Q E p s h; obtain ⟨st, hg, h⟩ := h; exact ⟨st, hg, ih _ h⟩
  | resume g r l k ih =>
    intro Q E p s h
    obtain ⟨res, s1, hw, h⟩ := h
    have l1 : s.gens.size ≤ s1.gens.size := wakes_gens hw
    exact ⟨res, s1, hw, mono (ih res h) (fun a p s q => ⟨q.1, Nat.le_trans l1 q.2⟩) fun a p s q => ⟨q.1, Nat.le_trans l1 q.2⟩⟩
  | stack k ih => intro Q E p s h; exact ih _ h
  | thread k ih => intro Q E p s h; exact ih _ h
/-- no generator is lost -/
theorem wpAny_gens {α : Type} {M : Model} {A : Around} {t : Sem α} {Q : α → Shared → Prop} {E : Value → Shared → Prop} {s : Shared} (h : wpAny M A t Q E s) : wpAny M A t (fun a s' => Q a s' ∧ s.gens.size ≤ s'.gens.size) E s := fun Γ p hΓ =>
  Sem.wp_mono _ _ _ (fun _ _ _ q => q) (fun _ _ _ q => q.1) _ _ (wp_gens t (h Γ p hΓ))
end Bk
/-! E10h: all, any of a generator expression. -/
namespace Bk
open PySem PySem.Spec PyProof.Rows L2
abbrev gE (y tg it : Expr) (scope : Scope) (pos : Pos) : Expr := .GeneratorExp y [⟨tg, it, [], 0⟩] scope pos
/-- the context of a generator's body -/
abbrev gxC (X : Cx) (s : Shared) (H : Hp) (cenv : Env) (fp : List Addr) (A' : Around) : Cx := { X with A := A', s_0 := s, H_0 := H, env := cenv, outer := X.stack, stack := cenv :: X.stack, ex := fp, fn := fun _ => false, pn := [], xe := fun _ _ => False }
section
variable {X : Cx} {pins : List (Addr × Obj)} {σ : Stt} {H : Hp} {s : Shared}
theorem inv_grow {s' : Shared} (I : Inv X pins σ H s) (k : ∀ b o, s.heap.get? b = some o → s'.heap.get? b = some o) (ho : s'.os = s.os) (hg : AllBare s'.gens) : Inv X pins σ H s' :=
  I.call' (ch := []) ho (Un.kept k) (I.hok.kept k) hg fun b hb => absurd hb (by simp)
theorem bare_set {s : Shared} {g : Nat} {x : GenState} (h : AllBare s.gens) (hx : x.bare = true) : AllBare (s.setGen g x).gens := by
  intro y hy
  obtain ⟨i, hi, rfl⟩ := Array.mem_iff_getElem.mp hy
  have hi' : i < s.gens.size := by rw [← setGen_size s g x]; exact hi
  have e : (s.setGen g x).gens[i]? = some ((s.setGen g x).gens[i]) := Array.getElem?_eq_getElem hi
  by_cases z : i = g
  · subst z
    have e2 : (s.setGen i x).gens[i]? = some x := by simp [Shared.setGen, hi']
    rw [e] at e2
    rw [Option.some.inj e2]
    exact hx
  · have e2 : (s.setGen g x).gens[i]? = s.gens[i]? := by simp [Shared.setGen, Ne.symm z]
    rw [e, Array.getElem?_eq_getElem hi'] at e2
    rw [Option.some.inj e2]
    exact h _ (Array.getElem_mem hi')
theorem gen_start {scope : Scope} {own : List (Str × Nat)} {fp : List Addr} {code : Value} {m0 : Str → Option Value} {A' : Around} {h' : Heap} {ob : Obj} {gs : Array GenState} {tk : Nat}
    (I : Inv X pins σ H s) (ok : BlkOk X.N X.env.scope scope own) (nc : ∀ y ∈ scope.names, y.2 ≠ .cell) (hN : X.N.Nodup) (hfp : ∀ b ∈ fp, FpOk X pins H b ∧ b < s.heap.objs.size)
    (hf : A'.frames = some (genEnv scope (cloFrom X.env.cells scope.names []) s.heap.objs.size code builtinsNs X.env :: X.stack)) (hh : X.calm = true → A'.handled = none)
    (hn : h'.Ns s.heap.objs.size m0) (hs : Heap.SameBut s.heap.objs.size (s.heap.push { cls := .type "frame", data := .dict #[] }) h') (hob : ∀ v, ob.data ≠ .cell v) (hof : ob.isFreed = false) (hgs : AllBare gs) :
    Inv (gxC X s H (genEnv scope (cloFrom X.env.cells scope.names []) s.heap.objs.size code builtinsNs X.env) fp A') [(h'.objs.size, ob)] (wipe σ (own.map (·.2))) H { s with gens := gs, toks := tk, heap := h'.push ob } := by
  have hfree : ∀ y ∈ scope.names, y.2 = .free → ∃ c, X.env.cells.lookup y.1 = some c := fun y hy e => by
    rcases ok.free y hy e with k | k
    · exact I.ok.has _ (.inl k)
    · exact I.ok.has _ (.inr k)
  generalize hcenv : genEnv scope (cloFrom X.env.cells scope.names []) s.heap.objs.size code builtinsNs X.env = cenv at hf ⊢
  have kp1 : ∀ b o, s.heap.get? b = some o → h'.get? b = some o := fun b o e => hs.extBut b o (Nat.ne_of_lt (Heap.lt_size e)) (Heap.get?_push_of_some _ e)
  have kp : ∀ b o, s.heap.get? b = some o → (h'.push ob).get? b = some o := fun b o e => Heap.get?_push_of_some _ (kp1 b o e)
  have hsz : h'.objs.size = s.heap.objs.size + 1 := by rw [hs.1, Heap.size_push]
  have hL : cenv.locals = s.heap.objs.size := by rw [← hcenv]; rfl
  have hcl : cenv.cells = cloFrom X.env.cells scope.names [] := by rw [← hcenv]; rfl
  have hsc : cenv.scope = scope := by rw [← hcenv]; rfl
  have cm : ∀ {y c}, cenv.cells.lookup y = some c → X.env.cells.lookup y = some c ∧ c < s.heap.objs.size := fun {y c} hl => by
    rw [hcl] at hl
    rcases cloFrom_mem (PySem.mem_of_lookup hl) with hm | ⟨h1, rfl⟩
    · cases hm
    · obtain ⟨c, hc⟩ := hfree _ h1 rfl
      rw [hc]
      obtain ⟨w, z⟩ := I.cell _ _ hc
      exact ⟨rfl, z.lt⟩
  have look : ∀ {y}, scope.names.lookup y = some .free → ∃ c, cenv.cells.lookup y = some c ∧ X.env.cells.lookup y = some c := fun {y} hl => by
    have hy : (y, NameKind.free) ∈ scope.names := PySem.mem_of_lookup hl
    obtain ⟨c', e'⟩ := mem_lookup (cloFrom_has (cells := X.env.cells) (acc := []) hy)
    rw [← hcl] at e'
    exact ⟨c', e', (cm e').1⟩
  have okB : (gxC X s H cenv fp A').Ok := by
    refine ⟨I.ok.mod, by show cenv.scope.kind = _; rw [hsc]; exact ok.kind, by show cenv.globals = _; rw [← hcenv]; exact I.ok.glob, by show cenv.builtins = _; rw [← hcenv]; rfl, by show s.heap.objs.size ≤ cenv.locals; rw [hL]; exact Nat.le_refl _,
      fun y z c e1 e2 => I.ok.inj y z c (cm e1).1 (cm e2).1, fun y hy => ?_, fun y c z e => ?_, hh, hf, .inr ⟨rfl, ?_⟩, fun b hb => ⟨?_, fun y c e z => ?_⟩, I.bs, Nat.le_trans I.ok.bsz I.sz, fun b o e hb => ?_, fun b hb z => ?_, I.stack, I.stkFree⟩
    · show ∃ c, cenv.cells.lookup y = some c
      rcases hy with hy | hy
      · have hy : cenv.scope.names.lookup y = some .cell := hy
        rw [hsc] at hy
        exact absurd rfl (nc _ (PySem.mem_of_lookup hy))
      · have hy : cenv.scope.names.lookup y = some .free := hy
        rw [hsc] at hy
        obtain ⟨c, h1, _⟩ := look hy
        exact ⟨c, h1⟩
    · exact absurd (show false = true from z) Bool.false_ne_true
    · show cenv.frame = some cenv.locals
      rw [← hcenv]; rfl
    · show b ≠ cenv.locals
      rw [hL]; exact Nat.ne_of_lt (hfp b hb).2
    · exact (hfp b hb).1.2.2.2.2.1 y c (cm e).1 z
    · rcases (hfp b hb).1.2.2.2.1 with z | z
      · exact I.ok.noex b o e z
      · exact absurd (Nat.lt_of_lt_of_le (Heap.lt_size e) (Nat.le_trans I.ok.bsz z)) (Nat.lt_irrefl _)
    · rcases List.mem_cons.mp (I.stkSub b z) with z | z
      · exact (hfp b hb).1.2.1 z
      · exact (hfp b hb).1.2.2.1 z
  refine ⟨okB, rfl, hgs, Un.kept kp, ⟨m0, ?_, fun i y av e1 e2 e3 => ?_⟩, fun y c e => ?_, ?_, fun y c e => I.freeC y c (cm e).1, fun p hp => ?_, I.hok.kept kp, by rw [wipe_length]; exact I.len⟩
  · show Heap.Ns _ cenv.locals _
    rw [hL]
    exact Heap.Ns.keeps hn fun b o e => Heap.get?_push_of_some _ e
  · obtain ⟨e2, hne⟩ := wipe_some e2
    have hfr : scope.names.lookup y = some .free := by
      have key : ∀ k, cenv.scope.names.lookup y = some k → k = .local ∨ k = .cell ∨ k = .free → scope.names.lookup y = some .free := fun k hk hk' => by
        rw [hsc] at hk
        have no : ¬ (k = .local ∨ k = .cell) := fun hh => by
          rcases ok.own _ (PySem.mem_of_lookup hk) hh with e' | e'
          · obtain ⟨p, hp, hpy⟩ := List.mem_map.mp e'
            have e3 := ok.ix p hp
            have : p.1 = y := hpy
            rw [this] at e3
            exact hne (List.mem_map.mpr ⟨p, hp, nodup_ix hN e3 e1⟩)
          · exact e' (List.mem_of_getElem? e1)
        rcases hk' with rfl | rfl | rfl
        · exact absurd (.inl rfl) no
        · exact absurd (.inr rfl) no
        · exact hk
      have e3 : Vis cenv.scope y := e3
      rcases e3 with e3 | e3 | e3
      · exact key _ e3 (.inl rfl)
      · exact key _ e3 (.inr (.inl rfl))
      · exact key _ e3 (.inr (.inr rfl))
    obtain ⟨m, hn, hl⟩ := I.loc
    have hvis : Vis X.env.scope y := (ok.free _ (PySem.mem_of_lookup hfr) rfl).elim (fun k => .inr (.inl k)) (fun k => .inr (.inr k))
    obtain ⟨w, r, q⟩ := hl i y av e1 e2 hvis
    have hk : cenv.kindOf y = some .free := by
      show cenv.scope.names.lookup y = _
      rw [hsc]
      exact hfr
    refine ⟨w, r, .inr ⟨.inr hk, ?_⟩⟩
    obtain ⟨c, h1, h2⟩ := look hfr
    rcases q with ⟨k, _⟩ | ⟨_, c', e', z⟩
    · have k : X.env.scope.names.lookup y = some .local := k
      rcases ok.free _ (PySem.mem_of_lookup hfr) rfl with k' | k' <;> rw [show X.env.scope.names.lookup y = _ from k'] at k <;> cases k
    · rw [h2] at e'; cases e'
      exact ⟨c, h1, z.keeps kp⟩
  · obtain ⟨w, z⟩ := I.cell y c (cm e).1
    exact ⟨w, z.keeps kp⟩
  · show H cenv.locals = none
    rw [hL]; exact I.hok.fresh (Nat.le_refl _)
  · have hp' : p = (h'.objs.size, ob) := by simpa using (show p ∈ ([] : List (Addr × Obj)) ++ [(h'.objs.size, ob)] from hp)
    subst hp'
    refine ⟨Heap.get?_push_size _ hof, I.hok.fresh (by rw [hsz]; exact Nat.le_succ _), ?_, ?_, hob⟩
    · show h'.objs.size ≠ cenv.locals
      rw [hL, hsz]; exact Nat.succ_ne_self _
    · intro z
      have z : h'.objs.size ∈ frs X.stack := z
      obtain ⟨_, o, ho, _⟩ := I.stack.mem z
      have := Heap.lt_size ho
      rw [hsz] at this
      exact absurd this (by show ¬ s.heap.objs.size + 1 < s.heap.objs.size; omega)
end
end Bk
/-! E10i: the turns of a generator, any and all over it. -/
namespace Bk
open PySem PySem.Spec PyProof.Rows L2
/-- what stays of the state that a generator has left -/
def Cont (s₁ s'' : Shared) : Prop := (∀ b o, s₁.heap.get? b = some o → s''.heap.get? b = some o) ∧ s''.os = s₁.os ∧ AllBare s''.gens
def gnP (Z : Cx) (pg : List (Addr × Obj)) (τ : Stt) (al : Bool) (Qh : Bool → Hp → Prop) : Nat → Shared → Shared → Prop := fun _ s₀ s₁ => ∃ H', Inv Z pg τ H' s₁ ∧ s₀.gens.size ≤ s₁.gens.size ∧ Qh al H'
def gnY (Z : Cx) (pg : List (Addr × Obj)) (τ : Stt) (al : Bool) (Qh : Bool → Hp → Prop) : Protocol := fun _ s₀ v s₁ kap => ∃ b H', v = .bool b ∧ Inv Z pg τ H' s₁ ∧ s₀.gens.size ≤ s₁.gens.size ∧ (if b = al then ∀ s'', Cont s₁ s'' → kap (.send .none) s'' else Qh b H')
/-- a turn's need -/
def gTurn (al : Bool) (J : It) (g : TG) (te : TE) (τ : Stt) (vs : List Nat) (Qh : Bool → Hp → Prop) (W : Nat → Nat → Hp → Prop) : Prop := ∀ i m H, W i m H → (J.stop i H ∧ Qh al H) ∨ (J.go i H ∧ ∃ Nx : Hp → Prop, (∀ H', Nx H' → ∃ m', m' < m ∧ W (i + 1) m' H') ∧
  ∀ x H', J.yld i H x H' → g x τ H' fun σ2 H2 => wipe σ2 vs = τ ∧ te σ2 H2 fun v H4 => ∃ b, v = .bl b ∧ if b = al then Nx H4 else Qh b H4)
section
variable {X : Cx} {σ : Stt} {s0 : Shared} {H0 : Hp} {cenv : Env} {fp : List Addr} {B : Around} {y tg it0 : Expr} {scope : Scope} {pos : Pos} {it : Addr} {tn : Nat → Heap → Prop} {J : It} {pg : List (Addr × Obj)} {vs : List Nat} {al : Bool} {Qh : Bool → Hp → Prop} {g : TG} {te : TE} {W : Nat → Nat → Hp → Prop}
theorem gfp {σ' : Stt} {H' : Hp} {s' : Shared} {A' : Around} (hpg : ∀ p ∈ pg, p.1 ∉ fp) (I' : Inv (gxC X s0 H0 cenv fp A') pg σ' H' s') (hn : ∀ b ∈ fp, H' b = none) : ∀ b ∈ fp, FpOk (gxC X s0 H0 cenv fp A') pg H' b := fun b hb =>
  ⟨hn b hb, (I'.ok.exf b hb).1, I'.ok.exfs b hb, .inl hb, fun x c e => (I'.ok.exf b hb).2 x c e, fun p hp z => hpg p (by simpa using (show p ∈ ([] : List (Addr × Obj)) ++ pg from hp)) (by rw [z]; exact hb)⟩
theorem seg_loop (hc : X.calm = true) (hco : cenv.scope.isCoroutine = false) (hpg : ∀ p ∈ pg, p.1 ∉ fp) (T : Turn X.prog X.w X.K tg J fp it tn)
    (PGt : PG (gxC X s0 H0 cenv fp (B.over (.compLoop (gE y tg it0 scope pos) 0 (.ref it) .none cenv) [])) tg g) (PEe : PE (gxC X s0 H0 cenv fp (B.over (.compLoop (gE y tg it0 scope pos) 0 (.ref it) .none cenv) [])) y te)
    (turn : gTurn al J g te (wipe σ vs) vs Qh W) :
    ∀ (n i m : Nat) (s₀ s : Shared) (H : Hp), m < n → W i m H → Inv (gxC X s0 H0 cenv fp (B.over (.compLoop (gE y tg it0 scope pos) 0 (.ref it) .none cenv) [])) pg (wipe σ vs) H s → tn i s.heap → (∀ b ∈ fp, H b = none) → s₀.gens.size ≤ s.gens.size →
      Seg (model X.prog X.w) B (fun n s₀ r s₁ => r = .ok .next ∧ gnP (gxC X s0 H0 cenv fp (B.over (.compLoop (gE y tg it0 scope pos) 0 (.ref it) .none cenv) [])) pg (wipe σ vs) al Qh n s₀ s₁) (gnY (gxC X s0 H0 cenv fp (B.over (.compLoop (gE y tg it0 scope pos) 0 (.ref it) .none cenv) [])) pg (wipe σ vs) al Qh) n s₀
        (.compLoop (gE y tg it0 scope pos) 0 (.ref it) .none cenv) ((model X.prog X.w).den (.compLoop (gE y tg it0 scope pos) 0 (.ref it) .none cenv)) [] s := by
  intro n
  induction n with
  | zero => exact fun i m s₀ s H h => absurd h (Nat.not_lt_zero _)
  | succ n ih =>
    intro i m s₀ s H hm w I st fr hz
    show Seg _ B _ _ _ s₀ _ ((compTurn (gE y tg it0 scope pos) 0 (.ref it) .none cenv).onRaise (leaving cenv)) [] s
    rw [compTurn_gen, Sem.onRaise_eq_wrap]
    refine seg_bind_wrap (wpAny_standAt ?_)
    rcases turn i m H w with ⟨stop, q⟩ | ⟨go, Nx, hNx, step⟩
    · have td := T.done (gxC X s0 H0 cenv fp (B.over (.compLoop (gE y tg it0 scope pos) 0 (.ref it) .none cenv) [])) rfl rfl rfl hc i pg s _ H (fun _ _ => False) I (gfp hpg I fr) st stop
      refine seg_bind_wrap (wpAny_mono (wpAny_gens td) (fun r s6 h6 => ?_) fun _ _ z => z.elim)
      obtain ⟨⟨hr, I6⟩, l6⟩ := h6
      subst hr
      exact seg_end (.ok .next) ⟨rfl, H, I6, Nat.le_trans hz l6, q⟩
    · have ti := T.item (gxC X s0 H0 cenv fp (B.over (.compLoop (gE y tg it0 scope pos) 0 (.ref it) .none cenv) [])) rfl rfl rfl hc i pg s _ H (fun _ _ => False) I (gfp hpg I fr) st go
      refine seg_bind_wrap (wpAny_mono (wpAny_gens ti) (fun r s6 h6 => ?_) fun _ _ z => z.elim)
      obtain ⟨⟨u, hr, h6⟩, l6⟩ := h6
      subst hr
      refine seg_bind_wrap (wpAny_mono (wpAny_gens h6) (fun _ s7 h7 => ?_) fun _ _ z => z.elim)
      obtain ⟨⟨x, H7, I7, r7, y7, st7, n7⟩, l7⟩ := h7
      have I7' := I7.pinned (gfp hpg I7 n7) (T.obj _ _ st7)
      refine seg_bind_wrap (wpAny_mono (wpAny_gens (PGt.run _ s7 _ H7 x u _ I7' r7 (step x H7 y7))) (fun _ s8 h8 => ?_) fun _ _ z => False.elim z)
      obtain ⟨⟨σ8, H8, I8, hw8, q8⟩, l8⟩ := h8
      refine seg_bind_wrap ?_
      show wpAny _ _ (forIn ([] : List Expr) true _) _ _ _
      rw [List.forIn_nil]
      refine wpAny_pure ?_
      simp only [if_true]
      have hy : ∀ v, yieldOut cenv v = yieldValue v := fun v => by simp only [yieldOut, hco, Bool.false_eq_true, if_false]
      simp only [hy]
      rw [Sem.bind_eq_wrap', Sem.bind_eq_wrap', Sem.wrap_wrap, Sem.wrap_wrap]
      refine seg_wrap (wpAny_mono (wpAny_gens (PEe.run _ s8 σ8 H8 _ I8 q8)) (fun yv s9 h9 => ?_) fun _ _ z => False.elim z)
      obtain ⟨⟨v, H9, I9, r9, b, hb, nx⟩, l9⟩ := h9
      subst hb
      obtain rfl : yv = .bool b := r9
      have pin' : ∀ b ∈ fp, ∀ o, s7.heap.get? b = some o → s9.heap.get? b = some o ∧ H9 b = none := fun b hb o e =>
        let z := I9.pin (b, o) (List.mem_append_right _ (List.mem_append_right _ (mem_pinsAt hb e)))
        ⟨z.1, z.2.1⟩
      have hl : (wipe σ vs).length = σ8.length := by rw [← hw8, wipe_length]
      have back := (I9.unpinned (pins := pg)).weak hl (fun j v e => by
        rw [← hw8] at e
        exact (wipe_some e).1)
      refine seg_at (seg_yield rfl rfl rfl ⟨b, H9, rfl, back, by omega, ?_⟩)
      by_cases hba : b = al
      · rw [if_pos hba] at nx ⊢
        intro s'' hcont
        obtain ⟨m', hm', w'⟩ := hNx H9 nx
        refine seg_again rfl (ih (i + 1) m' s'' s'' H9 (by omega) w' (inv_grow back hcont.1 hcont.2.1 hcont.2.2) (T.keep _ _ _ st7 fun b hb o e => hcont.1 _ _ (pin' b hb o e).1) (fun b hb => ?_) (Nat.le_refl _))
        obtain ⟨o, e, _⟩ := T.obj _ _ st7 b hb
        exact (pin' b hb o e).2
      · rw [if_neg hba] at nx ⊢
        exact nx
theorem seg_start (hc : X.calm = true) (hco : cenv.scope.isCoroutine = false) (hpg : ∀ p ∈ pg, p.1 ∉ fp) (T : Turn X.prog X.w X.K tg J fp it tn)
    (PGt : PG (gxC X s0 H0 cenv fp (B.over (.compLoop (gE y tg it0 scope pos) 0 (.ref it) .none cenv) [])) tg g) (PEe : PE (gxC X s0 H0 cenv fp (B.over (.compLoop (gE y tg it0 scope pos) 0 (.ref it) .none cenv) [])) y te)
    (turn : gTurn al J g te (wipe σ vs) vs Qh W) (n m : Nat) (s₀ s : Shared) (H : Hp) (hm : m < n) (w : W 0 m H) (I : Inv (gxC X s0 H0 cenv fp (B.over (.compLoop (gE y tg it0 scope pos) 0 (.ref it) .none cenv) [])) pg (wipe σ vs) H s) (st : tn 0 s.heap) (fr : ∀ b ∈ fp, H b = none) (hz : s₀.gens.size ≤ s.gens.size) :
      Seg (model X.prog X.w) B (fun n s₀ r s₁ => r = .ok .next ∧ gnP (gxC X s0 H0 cenv fp (B.over (.compLoop (gE y tg it0 scope pos) 0 (.ref it) .none cenv) [])) pg (wipe σ vs) al Qh n s₀ s₁) (gnY (gxC X s0 H0 cenv fp (B.over (.compLoop (gE y tg it0 scope pos) 0 (.ref it) .none cenv) [])) pg (wipe σ vs) al Qh) n s₀
        (.compStart (gE y tg it0 scope pos) 0 (.ref it) .none cenv) ((model X.prog X.w).den (.compStart (gE y tg it0 scope pos) 0 (.ref it) .none cenv)) [] s := by
  have loop := seg_loop (al := al) (Qh := Qh) hc hco hpg T PGt PEe turn n 0 m s₀ s H hm w I st fr hz
  show Seg _ B _ _ _ s₀ _ ((compStart (gE y tg it0 scope pos) 0 (.ref it) .none cenv).onRaise (leaving cenv)) [] s
  unfold compStart
  rw [Sem.onRaise_eq_wrap]
  show Seg _ B _ _ _ s₀ _ ((ask >>= _).wrap _ _ _ _) [] s
  refine seg_bind_wrap (wpAny_askSetting ?_)
  split
  · exact seg_again rfl loop
  · first
      | exact seg_bind_wrap (wpAny_rule (seg_bind_wrap (wpAny_standAt (seg_bind_wrap (T.self _ 0 s _ _ st (seg_again rfl loop))))))
      | (refine seg_bind_wrap (wpAny_rule ?_); show Seg _ B _ _ _ s₀ _ ((standAt it0.pos >>= _).wrap _ _ _ _) [] s; exact seg_bind_wrap (wpAny_standAt (seg_bind_wrap (T.self _ 0 s _ _ st (seg_again rfl loop)))))
end
/-! any, all over a generator -/
theorem all_loop {Z : Cx} {pg : List (Addr × Obj)} {τ : Stt} {Qh : Bool → Hp → Prop} {A : Around} {a : Addr} {g : Nat} {og : Obj} {nm qn : Value} {R : Result → Shared → Prop} (hh : A.handled = none) (hroom : A.depth < recursionLimit)
    (hog : og.cls = .type "generator" ∧ og.slots = #[]) (hd : og.data = .fields #[.int g 0, nm, qn]) (hpg : (a, og) ∈ pg)
    (hR : ∀ b s' H', Inv Z pg τ H' s' → Qh b H' → R (.ok (.ret (.bool b))) s') :
    ∀ (n : Nat) (s : Shared) (gs : GenState), s.heap.get? a = some og → s.heap.NoLimit → g < s.gens.size → s.gens[g]? = some gs → AllBare s.gens →
      gs.Goes (model Z.prog Z.w) A.in1.in1 (fun n s₀ r s₁ => r = .ok .next ∧ gnP Z pg τ true Qh n s₀ s₁) (gnY Z pg τ true Qh) n (.send .none) (s.setGen g .running) →
      codeAny (model Z.prog Z.w) A (.builtin "all.loop" ⟨[.ref a], []⟩) R s := by
  intro n
  induction n with
  | zero =>
    intro s gs ha hl hlt hgs hb hgo
    refine codeAny_builtin F.entry_all_loop ?_
    rw [Around.under_plainId F.plain_all_loop _]
    show wpAny _ A.in1 (pyNext (.ref a) >>= _) _ _ s
    refine wpAny_bind (wpAny_pyNext_genexpQ (A := A.in1) (P := gnP Z pg τ true Qh) (Y := gnY Z pg τ true Qh) hh hl hroom ⟨og, nm, qn, ha, hog.1, hd, hog.2⟩ hgs hgo (fun v s₁ gs' hbare hv => ?_) (fun s₁ hp h' hk => ?_))
    · obtain ⟨b, H', rfl, I, hz, hq⟩ := hv
      have hlt' : g < s₁.gens.size := Nat.lt_of_lt_of_le hlt (by rw [setGen_size] at hz; exact hz)
      refine wpAny_bind (wpAny_holding (wpAny_truthy_bool ?_))
      refine wpAny_bind (wpAny_letGo ?_)
      cases b with
      | true =>
        rw [if_pos rfl] at hq
        first
          | simp only [if_true]
          | simp only [Bool.false_eq_true, if_false]
        exact (hq s₁ ⟨fun _ _ e => e, rfl, I.bare⟩).elim
      | false =>
        rw [if_neg (by decide)] at hq
        first
          | simp only [Bool.false_eq_true, if_false]
          | simp only [if_true]
        refine wpAny_bind (wpAny_rule (wpAny_pure ?_))
        exact hR false _ H' (inv_grow (s' := s₁.setGen g gs') I (fun _ _ e => e) rfl (bare_set I.bare hbare)) hq
    · obtain ⟨H', I, hz, hq⟩ := hp
      refine wpAny_bind (wpAny_rule (wpAny_pure ?_))
      exact hR true _ H' (inv_grow I hk rfl (bare_set I.bare rfl)) hq
  | succ n ih =>
    intro s gs ha hl hlt hgs hb hgo
    refine codeAny_builtin F.entry_all_loop ?_
    rw [Around.under_plainId F.plain_all_loop _]
    show wpAny _ A.in1 (pyNext (.ref a) >>= _) _ _ s
    refine wpAny_bind (wpAny_pyNext_genexpQ (A := A.in1) (P := gnP Z pg τ true Qh) (Y := gnY Z pg τ true Qh) hh hl hroom ⟨og, nm, qn, ha, hog.1, hd, hog.2⟩ hgs hgo (fun v s₁ gs' hbare hv => ?_) (fun s₁ hp h' hk => ?_))
    · obtain ⟨b, H', rfl, I, hz, hq⟩ := hv
      have hlt' : g < s₁.gens.size := Nat.lt_of_lt_of_le hlt (by rw [setGen_size] at hz; exact hz)
      refine wpAny_bind (wpAny_holding (wpAny_truthy_bool ?_))
      refine wpAny_bind (wpAny_letGo ?_)
      cases b with
      | true =>
        rw [if_pos rfl] at hq
        first
          | simp only [if_true]
          | simp only [Bool.false_eq_true, if_false]
        refine wpAny_pure ⟨plainId_quiet F.plain_all_loop _, ih _ gs' (I.pin _ (List.mem_append_right _ hpg)).1 I.nolimit (by rw [setGen_size]; exact hlt') (by simp [Shared.setGen, hlt']) (bare_set I.bare hbare) (hq _ ⟨fun _ _ e => e, rfl, bare_set (bare_set I.bare hbare) rfl⟩)⟩
      | false =>
        rw [if_neg (by decide)] at hq
        first
          | simp only [Bool.false_eq_true, if_false]
          | simp only [if_true]
        refine wpAny_bind (wpAny_rule (wpAny_pure ?_))
        exact hR false _ H' (inv_grow (s' := s₁.setGen g gs') I (fun _ _ e => e) rfl (bare_set I.bare hbare)) hq
    · obtain ⟨H', I, hz, hq⟩ := hp
      refine wpAny_bind (wpAny_rule (wpAny_pure ?_))
      exact hR true _ H' (inv_grow I hk rfl (bare_set I.bare rfl)) hq
theorem any_loop {Z : Cx} {pg : List (Addr × Obj)} {τ : Stt} {Qh : Bool → Hp → Prop} {A : Around} {a : Addr} {g : Nat} {og : Obj} {nm qn : Value} {R : Result → Shared → Prop} (hh : A.handled = none) (hroom : A.depth < recursionLimit)
    (hog : og.cls = .type "generator" ∧ og.slots = #[]) (hd : og.data = .fields #[.int g 0, nm, qn]) (hpg : (a, og) ∈ pg)
    (hR : ∀ b s' H', Inv Z pg τ H' s' → Qh b H' → R (.ok (.ret (.bool b))) s') :
    ∀ (n : Nat) (s : Shared) (gs : GenState), s.heap.get? a = some og → s.heap.NoLimit → g < s.gens.size → s.gens[g]? = some gs → AllBare s.gens →
      gs.Goes (model Z.prog Z.w) A.in1.in1 (fun n s₀ r s₁ => r = .ok .next ∧ gnP Z pg τ false Qh n s₀ s₁) (gnY Z pg τ false Qh) n (.send .none) (s.setGen g .running) →
      codeAny (model Z.prog Z.w) A (.builtin "any.loop" ⟨[.ref a], []⟩) R s := by
  intro n
  induction n with
  | zero =>
    intro s gs ha hl hlt hgs hb hgo
    refine codeAny_builtin F.entry_any_loop ?_
    rw [Around.under_plainId F.plain_any_loop _]
    show wpAny _ A.in1 (pyNext (.ref a) >>= _) _ _ s
    refine wpAny_bind (wpAny_pyNext_genexpQ (A := A.in1) (P := gnP Z pg τ false Qh) (Y := gnY Z pg τ false Qh) hh hl hroom ⟨og, nm, qn, ha, hog.1, hd, hog.2⟩ hgs hgo (fun v s₁ gs' hbare hv => ?_) (fun s₁ hp h' hk => ?_))
    · obtain ⟨b, H', rfl, I, hz, hq⟩ := hv
      have hlt' : g < s₁.gens.size := Nat.lt_of_lt_of_le hlt (by rw [setGen_size] at hz; exact hz)
      refine wpAny_bind (wpAny_holding (wpAny_truthy_bool ?_))
      refine wpAny_bind (wpAny_letGo ?_)
      cases b with
      | false =>
        rw [if_pos rfl] at hq
        first
          | simp only [if_true]
          | simp only [Bool.false_eq_true, if_false]
        exact (hq s₁ ⟨fun _ _ e => e, rfl, I.bare⟩).elim
      | true =>
        rw [if_neg (by decide)] at hq
        first
          | simp only [Bool.false_eq_true, if_false]
          | simp only [if_true]
        refine wpAny_bind (wpAny_rule (wpAny_pure ?_))
        exact hR true _ H' (inv_grow (s' := s₁.setGen g gs') I (fun _ _ e => e) rfl (bare_set I.bare hbare)) hq
    · obtain ⟨H', I, hz, hq⟩ := hp
      refine wpAny_bind (wpAny_rule (wpAny_pure ?_))
      exact hR false _ H' (inv_grow I hk rfl (bare_set I.bare rfl)) hq
  | succ n ih =>
    intro s gs ha hl hlt hgs hb hgo
    refine codeAny_builtin F.entry_any_loop ?_
    rw [Around.under_plainId F.plain_any_loop _]
    show wpAny _ A.in1 (pyNext (.ref a) >>= _) _ _ s
    refine wpAny_bind (wpAny_pyNext_genexpQ (A := A.in1) (P := gnP Z pg τ false Qh) (Y := gnY Z pg τ false Qh) hh hl hroom ⟨og, nm, qn, ha, hog.1, hd, hog.2⟩ hgs hgo (fun v s₁ gs' hbare hv => ?_) (fun s₁ hp h' hk => ?_))
    · obtain ⟨b, H', rfl, I, hz, hq⟩ := hv
      have hlt' : g < s₁.gens.size := Nat.lt_of_lt_of_le hlt (by rw [setGen_size] at hz; exact hz)
      refine wpAny_bind (wpAny_holding (wpAny_truthy_bool ?_))
      refine wpAny_bind (wpAny_letGo ?_)
      cases b with
      | false =>
        rw [if_pos rfl] at hq
        first
          | simp only [if_true]
          | simp only [Bool.false_eq_true, if_false]
        refine wpAny_pure ⟨plainId_quiet F.plain_any_loop _, ih _ gs' (I.pin _ (List.mem_append_right _ hpg)).1 I.nolimit (by rw [setGen_size]; exact hlt') (by simp [Shared.setGen, hlt']) (bare_set I.bare hbare) (hq _ ⟨fun _ _ e => e, rfl, bare_set (bare_set I.bare hbare) rfl⟩)⟩
      | true =>
        rw [if_neg (by decide)] at hq
        first
          | simp only [Bool.false_eq_true, if_false]
          | simp only [if_true]
        refine wpAny_bind (wpAny_rule (wpAny_pure ?_))
        exact hR true _ H' (inv_grow (s' := s₁.setGen g gs') I (fun _ _ e => e) rfl (bare_set I.bare hbare)) hq
    · obtain ⟨H', I, hz, hq⟩ := hp
      refine wpAny_bind (wpAny_rule (wpAny_pure ?_))
      exact hR false _ H' (inv_grow I hk rfl (bare_set I.bare rfl)) hq
end Bk
/-! E10j: all(..), any(..) of a generator expression: the term .qa. -/
namespace Bk
open PySem PySem.Spec PyProof.Rows L2
def tQa (al : Bool) (P : Addr) (wi : TI) (g : TG) (te : TE) (vs : List Nat) : TE := fun σ H Q => wi σ H fun J H1 => GxR.TabG H1 P ∧ ∀ H2, GxR.Tabbed P H1 H2 → ∃ W : Nat → Nat → Hp → Prop, (∃ m, W 0 m H2) ∧ gTurn al J g te (wipe σ vs) vs (fun b H3 => Q (.bl b) H3) W
abbrev qaN (al : Bool) : Str := if al then "all" else "any"
/-- where a generator's body runs -/
abbrev gnA (X : Cx) (y tg it0 : Expr) (scope : Scope) (pos : Pos) (it : Addr) (cenv : Env) : Around := X.A.in1.in1.over (.compLoop (gE y tg it0 scope pos) 0 (.ref it) .none cenv) []
abbrev gnE (X : Cx) (scope : Scope) (C : Addr) (code : Value) : Env := genEnv scope (cloFrom X.env.cells scope.names []) C code builtinsNs X.env
section
variable {X : Cx}
theorem gn_frames {y tg it0 : Expr} {scope : Scope} {pos : Pos} {it C : Addr} {code : Value} {l : List Env} (h : X.A.frames = some l) : (gnA X y tg it0 scope pos it (gnE X scope C code)).frames = some (gnE X scope C code :: l) := by
  show pushEnvs [gnE X scope C code] (pushEnvs [] X.A.frames) = _
  rw [h] <;> rfl
theorem pe_qa {c P : Addr} {al : Bool} {y tg it0 : Expr} {scope : Scope} {own : List (Str × Nat)} {p pos gpos : Pos} {wi : TI} {g : TG} {te : TE}
    (hc : X.calm = true) (hN : X.N.Nodup) (hd : X.A.depth < recursionLimit) (hg : Gl X (qaN al)) (hm : X.mg (qaN al) = none) (TB : GxR.TabB X.base X.mg c P) (hcode : X.env.code = .ref c) (ok : BlkOk X.N X.env.scope scope own) (gn : gnC scope = true)
    (hi : PI X tg it0 wi) (hG : ∀ (s : Shared) (H : Hp) (C it : Addr) (code : Value) (fp : List Addr), PG (gxC X s H (gnE X scope C code) fp (gnA X y tg it0 scope gpos it (gnE X scope C code))) tg g)
    (hE : ∀ (s : Shared) (H : Hp) (C it : Addr) (code : Value) (fp : List Addr), PE (gxC X s H (gnE X scope C code) fp (gnA X y tg it0 scope gpos it (gnE X scope C code))) y te)
    (hs : ∀ v, genFold it0 X.env v = pure v) : PE X (.Call (.Name (qaN al) p) [gE y tg it0 scope gpos] [] pos) (tQa al P wi g te (own.map (·.2))) := by
  refine ⟨fun pins s σ H Q I h => ?_⟩
  unfold gnC at gn
  simp only [Bool.and_eq_true, Bool.not_eq_true', decide_eq_true_eq, List.all_eq_true] at gn
  obtain ⟨⟨gco, gnc⟩, gdot⟩ := gn
  have hfree : ∀ z ∈ scope.names, z.2 = .free → ∃ c, X.env.cells.lookup z.1 = some c := fun z hz e => by
    rcases ok.free z hz e with k | k
    · exact I.ok.has _ (.inl k)
    · exact I.ok.has _ (.inr k)
  have hh : X.A.handled = none := I.ok.hd hc
  have he : starEach [gE y tg it0 scope gpos] X.env = (false, eval (gE y tg it0 scope gpos) X.env) :: starEach [] X.env := rfl
  have bt : bootBuiltins (qaN al) = some (.builtin (if al then "all" else "any")) := by cases al <;> decide +kernel
  refine wpAny_Call_Name_kw (ld_blt I hg hm bt ?_ (hn := by cases al <;> decide) (hd := by cases al <;> decide))
  refine PyProof.Rows.callWith_builtin1 ?_ he (by rfl)
  rw [he]
  show wpAny _ _ (spliced ((false, eval (gE y tg it0 scope gpos) X.env) :: backTo pos (starEach [] X.env))) _ _ s
  refine Calls.spliced_cons ?_
  refine wpAny_GeneratorExp_make gco (closure_ok hfree) gnc gdot ok.kind hd (thn (hi.run pins s σ H _ I h) fun xv s1 hx => thn hx fun itv s2 h2 => ?_) hs
  obtain ⟨it, fp, tn, J, H2, e, I2, T, st2, f2, ⟨ps, hP, ht⟩, q⟩ := h2
  subst e
  refine ⟨I2.nolimit, ?_⟩
  have hPs : s2.heap.get? P = some { cls := .none, data := .fields ps } := I2.hok P _ hP
  have cd : PySem.W.CodeHd s2.heap c P := TB.code.keeps I2.bk
  have sz : ∀ b ∈ fp, b < s2.heap.objs.size := fun b hb => by
    obtain ⟨o, e, _⟩ := T.obj _ _ st2 b hb
    exact Heap.lt_size e
  have nP : ∀ b ∈ fp, b ≠ P := fun b hb z => by
    have := (f2 b hb).1
    rw [z, hP] at this
    cases this
  have cont : ∀ (code : Value) (h3 : Heap) (tk : Nat) (ps' : Array Value), Heap.ExtBut P s2.heap h3 → s2.heap.objs.size ≤ h3.objs.size → h3.get? P = some { cls := .none, data := .fields ps' } → (∃ more, ps' = ps ++ more) → TriplesOk ps'.toList →
      wpAny (model X.prog X.w) X.A (builtinsFor X.env.globals X.env.builtins) (fun bi s₄ =>
        ∀ h', h'.Ns s₄.heap.objs.size (fun z => if z = ".0" then some (.ref it) else none) → Heap.SameBut s₄.heap.objs.size (s₄.heap.push { cls := .type "frame", data := .dict #[] }) h' →
          wpAny (model X.prog X.w) X.A (spliced (backTo pos (starEach [] X.env))) (fun vs s' => wpAny (model X.prog X.w) X.A (call (.builtin (if al then "all" else "any")) (.ref h'.objs.size :: vs)) (fun w s'' => ∃ v H', Inv X pins σ H' s'' ∧ RelV v w ∧ Q v H') X.xe s') X.xe { s₄ with
            gens := s₄.gens.push (.fresh (.compStart (gE y tg it0 scope gpos) 0 (.ref it) .none (genEnv scope (cloFrom X.env.cells scope.names []) s₄.heap.objs.size code bi X.env))),
            toks := s₄.toks + 1 + 1 + 1,
            heap := h'.push { cls := .type "generator", data := .fields #[.int s₄.gens.size 0, .str "<genexpr>" (s₄.toks + 1), .str (X.env.qual ++ "<genexpr>") (s₄.toks + 1 + 1)] } }) X.xe { s2 with heap := h3, toks := tk } := by
    intro code h3 tk ps' hx hsz hP3 hmore ht3
    obtain ⟨bm, ob, e1, e2, e3, e4, e5, e6, e7, e8⟩ := TB.bm
    refine wpAny_builtinsFor (m := X.mg) (by rw [I2.ok.glob]; exact (I2.mod.glob.keeps I2.bk).extBut hx TB.gP) e1 e2 (hx _ _ e4 (I2.bk _ _ e5)) e6 e7 e8 ?_
    intro h' hn' hs'
    obtain ⟨more, em⟩ := hmore
    subst em
    have I3 := GxR.inv_tab (more := more) (h' := h3) (g' := s2.gens) (d' := s2.drawn) (t' := tk) I2 hP (fun b u hb e => hx b u hb e) hP3 I2.bare
    obtain ⟨W, ⟨m0, w0⟩, turn⟩ := q (upd H2 P (.tbl (ps ++ more))) ⟨⟨ps ++ more, upd_same, ht3⟩, fun b hb => upd_ne hb⟩
    have f3 : ∀ b ∈ fp, FpOk X pins (upd H2 P (.tbl (ps ++ more))) b ∧ b < h3.objs.size := fun b hb => ⟨⟨by rw [upd_ne (nP b hb)]; exact (f2 b hb).1, (f2 b hb).2⟩, Nat.lt_of_lt_of_le (sz b hb) hsz⟩
    have st3 : tn 0 h3 := T.keep _ _ _ st2 fun b hb o e => hx b o (nP b hb) e
    generalize upd H2 P (.tbl (ps ++ more)) = H3 at I3 w0 f3
    have hf : (gnA X y tg it0 scope gpos it (gnE X scope h3.objs.size code)).frames = some (gnE X scope h3.objs.size code :: X.stack) := gn_frames I.ok.frames
    obtain ⟨s3, hs3⟩ : ∃ s3 : Shared, s3 = { s2 with heap := h3, toks := tk } := ⟨_, rfl⟩
    have I3 : Inv X pins σ H3 s3 := by rw [hs3]; exact I3
    have e3h : s3.heap = h3 := by rw [hs3]
    have hob : ∀ v, ({ cls := .type "generator", data := .fields #[.int s2.gens.size 0, .str "<genexpr>" (tk + 1), .str (X.env.qual ++ "<genexpr>") (tk + 1 + 1)] } : Obj).data ≠ .cell v := fun v z => nomatch z
    have I5 := gen_start (A' := gnA X y tg it0 scope gpos it (gnE X scope s3.heap.objs.size code)) (gs := s2.gens.push (.fresh (.compStart (gE y tg it0 scope gpos) 0 (.ref it) .none (gnE X scope h3.objs.size code)))) (tk := tk + 1 + 1 + 1) (code := code) I3 ok gnc hN (by rw [e3h]; exact f3) (by rw [e3h]; exact hf) (fun _ => hh) (by rw [e3h]; exact hn') (by rw [e3h]; exact hs') hob rfl (I2.bare.push rfl)
    rw [e3h] at I5
    refine Calls.spliced_nil ?_
    generalize hog : ({ cls := .type "generator", data := .fields #[.int s2.gens.size 0, .str "<genexpr>" (tk + 1), .str (X.env.qual ++ "<genexpr>") (tk + 1 + 1)] } : Obj) = og at I5 hob ⊢
    have hsz' : h'.objs.size = h3.objs.size + 1 := by rw [hs'.1, Heap.size_push]
    have hget : (h'.push og).get? h'.objs.size = some og := by rw [← hog]; exact Heap.get?_push_size _ rfl
    have isg : (h'.push og).IsGen h'.objs.size s2.gens.size := ⟨og, _, _, hget, by rw [← hog], by rw [← hog], by rw [← hog]⟩
    have hpg : ∀ p ∈ [(h'.objs.size, og)], p.1 ∉ fp := fun p hp hm => by
      have e0 : p = (h'.objs.size, og) := by simpa using hp
      subst e0
      have := (f3 _ hm).2
      rw [hsz'] at this
      exact absurd this (by show ¬ h3.objs.size + 1 < h3.objs.size; omega)
    have st5 : tn 0 (h'.push og) := T.keep _ _ _ st3 fun b hb o e => Heap.get?_push_of_some _ (hs'.extBut b o (Nat.ne_of_lt (f3 b hb).2) (Heap.get?_push_of_some _ e))
    generalize hs5 : ({ s3 with gens := s2.gens.push (.fresh (.compStart (gE y tg it0 scope gpos) 0 (.ref it) .none (gnE X scope h3.objs.size code))), toks := tk + 1 + 1 + 1, heap := h'.push og } : Shared) = s5 at I5
    have e5 : ({ ({ s2 with heap := h3, toks := tk } : Shared) with gens := s2.gens.push (.fresh (.compStart (gE y tg it0 scope gpos) 0 (.ref it) .none (gnE X scope h3.objs.size code))), toks := tk + 1 + 1 + 1, heap := h'.push og } : Shared) = s5 := by
      rw [← hs5, hs3]
    show wpAny _ X.A (call (.builtin (if al then "all" else "any")) [.ref h'.objs.size]) _ _ ({ ({ s2 with heap := h3, toks := tk } : Shared) with gens := s2.gens.push (.fresh (.compStart (gE y tg it0 scope gpos) 0 (.ref it) .none (gnE X scope h3.objs.size code))), toks := tk + 1 + 1 + 1, heap := h'.push og } : Shared)
    rw [e5]
    have h5h : s5.heap = h'.push og := by rw [← hs5]
    have h5g : s5.gens = s2.gens.push (.fresh (.compStart (gE y tg it0 scope gpos) 0 (.ref it) .none (gnE X scope h3.objs.size code))) := by rw [← hs5]
    have fin : ∀ (b : Bool) (s' : Shared) (H' : Hp), Inv (gxC X s3 H3 (gnE X scope h3.objs.size code) fp (gnA X y tg it0 scope gpos it (gnE X scope h3.objs.size code))) [(h'.objs.size, og)] (wipe σ (own.map (·.2))) H' s' → Q (.bl b) H' → ∃ v H', Inv X pins σ H' s' ∧ RelV v (.bool b) ∧ Q v H' := fun b s' H' I6 hq =>
      ⟨.bl b, H', I3.call' (ch := fp) I6.os I6.base I6.hok I6.bare fun b hb => ⟨(f3 b hb).1.2.2.2.1, (f3 b hb).1.2.1, (f3 b hb).1.2.2.2.2.1, (f3 b hb).1.2.2.2.2.2⟩, rfl, hq⟩
    have hlt : s2.gens.size < s5.gens.size := by rw [h5g, Array.size_push]; exact Nat.lt_succ_self _
    have hgs : s5.gens[s2.gens.size]? = some (.fresh (.compStart (gE y tg it0 scope gpos) 0 (.ref it) .none (gnE X scope h3.objs.size code))) := by rw [h5g]; exact Array.getElem?_push_size ..
    have fr3 : ∀ b ∈ fp, H3 b = none := fun b hb => (f3 b hb).1.1
    have seg := fun (Qh : Bool → Hp → Prop) turn => seg_start (X := X) (σ := σ) (B := X.A.in1.in1) (pos := gpos) (scope := scope) (it0 := it0) (pg := [(h'.objs.size, og)]) (vs := own.map (·.2)) (al := al) (Qh := Qh) (W := W) hc gco hpg T (hG s3 H3 h3.objs.size it code fp) (hE s3 H3 h3.objs.size it code fp) turn (m0 + 1) m0 (s5.setGen s2.gens.size .running) (s5.setGen s2.gens.size .running) H3 (Nat.lt_succ_self _) w0 (inv_grow (s' := s5.setGen s2.gens.size .running) I5 (fun _ _ e => e) rfl (bare_set I5.bare rfl)) (by show tn 0 s5.heap; rw [h5h]; exact st5) fr3 (Nat.le_refl _)
    have hget5 : s5.heap.get? h'.objs.size = some og := by rw [h5h]; exact hget
    cases al with
    | true =>
      refine call_function_tree F.kind_all F.plain_all F.entry_all (F.args_all1 _) ?_
      unfold Builtin.«all»
      refine wpAny_bind (m := oneArg "all" _) (wpAny_pure ?_)
      refine wpAny_bind (wpAny_pyIter_gen (by rw [h5h]; exact isg) ?_)
      exact wpAny_pure ⟨plainId_quiet F.plain_all_loop _, all_loop (Z := gxC X s3 H3 (gnE X scope h3.objs.size code) fp (gnA X y tg it0 scope gpos it (gnE X scope h3.objs.size code))) (pg := [(h'.objs.size, og)]) (τ := wipe σ (own.map (·.2))) (Qh := fun b H3 => Q (.bl b) H3) (og := og) (g := s2.gens.size) hh hd (by rw [← hog]; exact ⟨rfl, rfl⟩) (by rw [← hog]) (by simp) fin (m0 + 1) s5 _ hget5 I5.nolimit hlt hgs I5.bare ⟨rfl, seg _ turn⟩⟩
    | false =>
      refine call_function_tree F.kind_any F.plain_any F.entry_any (F.args_any1 _) ?_
      unfold Builtin.«any»
      refine wpAny_bind (m := oneArg "any" _) (wpAny_pure ?_)
      refine wpAny_bind (wpAny_pyIter_gen (by rw [h5h]; exact isg) ?_)
      exact wpAny_pure ⟨plainId_quiet F.plain_any_loop _, any_loop (Z := gxC X s3 H3 (gnE X scope h3.objs.size code) fp (gnA X y tg it0 scope gpos it (gnE X scope h3.objs.size code))) (pg := [(h'.objs.size, og)]) (τ := wipe σ (own.map (·.2))) (Qh := fun b H3 => Q (.bl b) H3) (og := og) (g := s2.gens.size) hh hd (by rw [← hog]; exact ⟨rfl, rfl⟩) (by rw [← hog]) (by simp) fin (m0 + 1) s5 _ hget5 I5.nolimit hlt hgs I5.bare ⟨rfl, seg _ turn⟩⟩
  cases hf : codeAmong gpos ps.toList with
  | none =>
    refine wpAny_genexprCodeX hcode (cd.code hPs ht) (cd.tab hPs) hf fun c' h' tk hx hge hlt hco' _ htab' _ => ?_
    obtain ⟨o1, vs, f1, tf, fl, tg, inF, tx, tt, op, _, _, _, _, _, _, _, _, _, htr, _⟩ := hco'
    exact cont _ h' tk _ hx (Nat.le_trans hge (Nat.le_of_lt hlt)) htab'.2 ⟨_, rfl⟩ htr
  | some cv =>
    refine wpAny_genexprCode_hit hcode (cd.code hPs ht) hf ?_
    exact cont cv s2.heap s2.toks ps (Heap.ExtBut.refl _ _) (Nat.le_refl _) hPs ⟨#[], by simp⟩ ht
end
end Bk
/-! E10k: the term .qa answers for all(..), any(..). -/
namespace Bk
open PySem PySem.Spec PyProof.Rows L2
theorem qaR_cons {al : Bool} {f : D → Rs Bool} {x : D} {xs : List D} {b0 : Bool} (h : qaR al f (x :: xs) = .ok b0) : ∃ b, f x = .ok b ∧ ((b = al ∧ qaR al f xs = .ok b0) ∨ (b ≠ al ∧ b = b0)) := by
  obtain ⟨b, h1, h2⟩ := Rs.bind_eq_ok (show (f x).bind _ = .ok b0 from h)
  refine ⟨b, h1, ?_⟩
  by_cases z : b = al
  · rw [if_pos (by rw [z]; exact beq_self_eq_true al)] at h2
    exact .inl ⟨z, h2⟩
  · rw [if_neg (fun q => z (eq_of_beq q))] at h2
    cases h2
    exact .inr ⟨z, rfl⟩
theorem asBool_ok {d : D} {b : Bool} (h : asBool d = .ok b) : d = .bool b := by
  cases d <;> first | (cases h; done) | skip
  cases h
  rfl
/-- a generator's reading -/
theorem qaRead {K : Fg} {G : Gh} {al : Bool} {c P : Addr} {w : Vn → Rs (List D)} {asn : D → Vn → Rs Vn} {el : Vn → Rs D} {own : List Nat} {f : Vn → Rs D} (tk : TK K c P)
    (hf : ∀ e d, f e = .ok d → own.any (fun i => isOwn (gt e i)) = false ∧ ∃ xs b0, w e = .ok xs ∧ qaR al (fun x => (asn x (kil own e)).bind fun e2 => (el e2).bind asBool) xs = .ok b0 ∧ d = .bool b0)
    {σ : Stt} {H : Hp} {Q : VK} (t : tE K G f σ H Q) : tQa al P (tW K G true w) (eG K own asn) (eE K el) own σ H Q := by
  obtain ⟨e, d, m, h0, q⟩ := t
  obtain ⟨ho, xs, b0, h1, h2, rfl⟩ := hf e d h0
  refine ⟨e, xs, m, h1, fun J H1 s1 wk => ⟨(m.up s1).tab _ _ tk, fun H2 tb => ?_⟩⟩
  have sT : Same H1 H2 := fun b o z => by
    by_cases hb : b = P
    · obtain ⟨o1, z1, t1⟩ := tabG_iff.mp ((m.up s1).tab _ _ tk)
      obtain ⟨o2, z2, t2⟩ := tabG_iff.mp tb.1
      rw [hb] at z ⊢
      rw [z] at z1
      cases z1
      exact .inr ⟨t1, o2, z2, t2⟩
    · exact .inl (by rw [tb.2 b hb]; exact z)
  have m1 := m.up s1
  refine ⟨fun i k H => k = xs.length - i ∧ i ≤ xs.length ∧ Same H1 H ∧ qaR al (fun x => (asn x (kil own e)).bind fun e2 => (el e2).bind asBool) (xs.drop i) = .ok b0, ⟨xs.length, rfl, Nat.zero_le _, sT, h2⟩, ?_⟩
  rintro i k H3 ⟨rfl, hi, sH, hq⟩
  by_cases hlt : i < xs.length
  · refine .inr ⟨wk.goes i H3 hlt sH, fun H4 => Same H1 H4 ∧ qaR al (fun x => (asn x (kil own e)).bind fun e2 => (el e2).bind asBool) (xs.drop (i + 1)) = .ok b0, fun H4 z => ⟨xs.length - (i + 1), by omega, rfl, hlt, z⟩, fun x H4 y => ?_⟩
    obtain ⟨s3, d, hd, hr⟩ := wk.yields i H3 x H4 hlt sH y
    have e1 : xs.drop i = d :: xs.drop (i + 1) := by
      have := List.drop_eq_getElem_cons hlt
      rw [this]
      rw [List.getElem?_eq_getElem hlt] at hd
      cases hd
      rfl
    rw [e1] at hq
    obtain ⟨b, k1, k2⟩ := qaR_cons hq
    obtain ⟨e2, k4, k5⟩ := Rs.bind_eq_ok k1
    obtain ⟨dy, k6, k7⟩ := Rs.bind_eq_ok k5
    obtain rfl := asBool_ok k7
    have m3 := m1.up sH
    obtain ⟨m0, hO⟩ := m3.wipe' ho
    have hx : Rp K (Fz G (kil own e) (wipe σ own) H4) x d := hr _ (fun b z => z.elim (m0.ban b) fun z => m0.ownThere z) (cutH_same (fun b z => by
      rcases z with z | z
      · exact .inl (.inl z)
      · exact .inl (.inr ((hO b).mp z))) sH)
    refine ⟨G, kil own e, d, e2, m0.up s3, hx, k4, fun σ2 m2 f2 ap => ⟨wipe_apart ap, G, e2, .bool b, m2, k6, fun v H5 s5 r5 => ?_⟩⟩
    obtain rfl : v = .bl b := by cases r5; rfl
    refine ⟨b, rfl, ?_⟩
    have s := sH.trans (s3.trans s5)
    rcases k2 with ⟨z, k2⟩ | ⟨z, rfl⟩
    · rw [if_pos z]
      exact ⟨s, k2⟩
    · rw [if_neg z]
      exact q _ H5 (s1.trans s) (.bl _)
  · have e1 : i = xs.length := by omega
    subst e1
    rw [List.drop_length] at hq
    cases hq
    exact .inl ⟨wk.stops H3 sH, q _ H3 (s1.trans sH) (.bl _)⟩
section
variable {X : Cx} {C : Cn} {T : Tb} {G : Gh}
theorem room_gn {k : Nat} {y tg it0 : Expr} {scope : Scope} {pos : Pos} {it : Addr} {cenv : Env} (r : Room (k + 2) X.A) : Room (k + 1) (gnA X y tg it0 scope pos it cenv) :=
  ⟨r.hd, by have := r.dp; show X.A.depth + 0 + 1 + 3 * (k + 1) + 5 < _; omega, by have := r.un; show X.A.units + 1 + 1 + 0 + 3 + 16 * (k + 1) + 200 < _; omega⟩
theorem gdGn (g : Gd X C T) (hx : T.gx = true) {y tg it0 : Expr} {scope : Scope} {pos : Pos} (s : Shared) (H : Hp) (c it : Addr) (code : Value) (fp : List Addr) : Gd (gxC X s H (gnE X scope c code) fp (gnA X y tg it0 scope pos it (gnE X scope c code))) C { T with sc := scope, gx := false } where
  N := g.N
  sc := rfl
  nd := g.nd
  calm := g.calm
  bl := g.bl
  gl := g.gl
  fn := fun j f n h => by
    obtain ⟨k, fa, fd, ps, k1, k2, k3, k4, k5⟩ := (g.fn j f n h).ex
    rw [hx] at k4
    exact ⟨k, fa, fd, ps, k1, k2, k3, room_gn k4, k5⟩
  ns := g.ns
  un := by have := (g.dp hx).2; show X.A.units + 1 + 1 + 0 + 3 + 64 < _; omega
  dp := fun z => absurd (show false = true from z) Bool.false_ne_true
  cd := fun z => absurd (show false = true from z) Bool.false_ne_true
theorem sGg {own : List Nat} {t : Tg} {x y it0 : Expr} {scope : Scope} {pos : Pos} (g : Gd X C T) (nc : ∀ y ∈ scope.names, y.2 ≠ .cell) (s : Shared) (H : Hp) (c it : Addr) (code : Value) (fp : List Addr) (h : ckg { T with sc := scope } own t x = true) {G : Gh} :
    PG (gxC X s H (gnE X scope c code) fp (gnA X y x it0 scope pos it (gnE X scope c code))) x (gT X.K G own (asg t)) := by
  refine sG t (T := { T with sc := scope }) (G := G) g.N g.nd g.calm (fun z hz => ?_) h
  show L2.Loc scope z ∧ (false = true ∨ scope.names.lookup z = some .local)
  unfold locB at hz
  have hz' : (match scope.names.lookup z with
    | some .local => true
    | some .cell => true
    | _ => false) = true := hz
  cases q : scope.names.lookup z with
  | none => rw [q] at hz'; cases hz'
  | some k =>
    rw [q] at hz'
    cases k with
    | «local» => exact ⟨.inl q, .inr rfl⟩
    | cell => exact absurd rfl (nc _ (PySem.mem_of_lookup q))
    | _ => cases hz'
theorem genPure {x : Expr} (h : notLst x = true) (env : Env) (v : Value) : genFold x env v = pure v := by
  cases x <;> first | rfl | cases h
theorem qaKey {al : Bool} {el : Xp} {t : Tg} {w : Wk} {own : List Nat} {x : Expr} {m : Md} (q : ck T m (.qa al el t w own) x = true) : ∃ n p y tg it scope gpos pos, x = .Call (.Name n p) [.GeneratorExp y [⟨tg, it, [], 0⟩] scope gpos] [] pos ∧ T.gx = true ∧ n = qaN al ∧ glB T.sc n = true ∧
    blkC T.N T.sc scope (own.map fun i => (T.N.getD i "", i)) = true ∧ gnC scope = true ∧ ckw T .lent tg w it = true ∧ notLst it = true ∧ ckg { T with sc := scope } own t tg = true ∧ ck { T with sc := scope, gx := false } .val el y = true := by
  unfold ck at q
  split at q
  · simp only [Bool.and_eq_true, decide_eq_true_eq] at q
    obtain ⟨⟨⟨⟨⟨⟨⟨⟨⟨h1, h2⟩, h3⟩, h4⟩, h5⟩, h6⟩, h7⟩, h8⟩, h9⟩, h10⟩ := q
    subst h4
    exact ⟨_, _, _, _, _, _, _, _, rfl, h1, h2, h3, h5, h6, h7, h8, h9, h10⟩
  · cases q
theorem qaEv {al : Bool} {el : Xp} {t : Tg} {w : Wk} {own : List Nat} (e : Vn) (d : D) (h : ev C (.qa al el t w own) e = .ok d) : own.any (fun i => isOwn (gt e i)) = false ∧ ∃ xs b0, evw C w e = .ok xs ∧
    qaR al (fun x => (asg t x (kil own e)).bind fun e2 => (ev C el e2).bind asBool) xs = .ok b0 ∧ d = .bool b0 := by
  simp only [ev] at h
  split at h
  · cases h
  · rename_i ho
    obtain ⟨xs, h1, h2⟩ := Rs.bind_eq_ok h
    obtain ⟨b0, h3, h4⟩ := Rs.bind_eq_ok h2
    cases h4
    exact ⟨by simpa using ho, xs, b0, h1, Rs.calm_eq_ok h3, rfl⟩
theorem pQa {al : Bool} {el : Xp} {t : Tg} {w : Wk} {own : List Nat} (he : PX C el) (hw : PXw C w) : PX C (.qa al el t w own) := lift (fun {X T G x} g q => by
    obtain ⟨n, p, y, tg, it, scope, gpos, pos, rfl, h1, rfl, h3, h4, h5, h6, h7, h8, h9⟩ := qaKey q
    obtain ⟨c, P, c1, c2, c3⟩ := g.cd h1
    have nc : ∀ y ∈ scope.names, y.2 ≠ .cell := by
      unfold gnC at h5
      simp only [Bool.and_eq_true, decide_eq_true_eq, List.all_eq_true] at h5
      exact h5.1.2
    refine peImp (pe_qa (al := al) (own := own.map fun i => (T.N.getD i "", i)) (wi := tW X.K G true (evw C w)) (g := eG X.K own (asg t)) (te := eE X.K (ev C el)) g.calm (by rw [g.N]; exact g.nd) (by have := (g.dp h1).1; omega) (glOf g h3).1 (g.bl _ (by cases al <;> decide)) c3 c1 (blkOk_by (by rw [g.N, g.sc]; exact h4)) h5
      (hw.walk (G := G) g h6 (fun z => nomatch z)) (fun s H c it code fp => pgG fun G => sGg g nc s H c it code fp h8) (fun s H c it code fp => peG fun G => he.val (G := G) (gdGn g h1 s H c it code fp) h9) (genPure h7 X.env)) fun σ H Q z => ?_
    rw [ownMap]
    exact qaRead c2 qaEv z)
  (fun _ x => by
    unfold ck
    rfl) (fun _ x => by
    unfold ck
    rfl) fun T x h => by
      obtain ⟨n, p, y, tg, it, scope, gpos, pos, rfl, _⟩ := qaKey h
      rfl
end
end Bk
/-! E10l: defs as values. -/
namespace Bk
open PySem PySem.Spec PyProof.Rows L2
theorem isFnD_eq {x : Str} {d : D} (h : isFnD x d = true) : d = fnD x := by
  unfold isFnD at h
  split at h
  · rw [of_decide_eq_true h]
    rfl
  · cases h
theorem pickC_of {C : Cn} {d : D} {ds : List D} {r : Rs D} : ∀ {cs : List (Str × Nat)}, pickC C cs d ds = r → r ≠ .st → ∃ x j, (x, j) ∈ cs ∧ d = fnD x ∧ C.fn j ds = r
  | [], h, n => absurd h.symm n
  | (x, j) :: cs, h, n => by
    simp only [pickC] at h
    split at h
    · rename_i hx
      exact ⟨x, j, List.mem_cons_self, isFnD_eq hx, h⟩
    · obtain ⟨y, k, h1, h2, h3⟩ := pickC_of h n
      exact ⟨y, k, List.mem_cons_of_mem _ h1, h2, h3⟩
theorem rpFn {K : Fg} {F : Hp} {v : V} {x : Str} (r : Rp K F v (fnD x)) : ∃ a, v = .ref a ∧ PySem.W.nsIn K mainGlobals x = some (some (.ref a)) := by
  unfold fnD at r
  generalize hq : (PyData.dict [(PyData.bool true, PyData.str x)] : D) = q at r
  cases r with
  | dK h q =>
    exfalso
    cases q with
    | nil => cases hq
    | cons r rs =>
      rename_i k _ _ _ _
      cases k <;> cases hq
  | dT h q => exact absurd hq (fun z => by cases z)
  | fn h =>
    cases hq
    exact ⟨_, rfl, h⟩
  | _ => cases hq
section
variable {X : Cx} {C : Cn} {T : Tb} {G : Gh}
theorem pFv (x : Str) : PX C (.fv x) := lift (fun {X T G y} g h => by
    cases y <;> first | (cases h; done) | skip
    rename_i n pos
    simp only [ck, Bool.and_eq_true, decide_eq_true_eq] at h
    obtain ⟨⟨rfl, h2⟩, h3⟩ := h
    obtain ⟨h4, h5⟩ := glOf g h2
    obtain ⟨p, hp, hx⟩ := List.any_eq_true.mp h3
    obtain ⟨j, hj⟩ := List.mem_iff_getElem?.mp hp
    have e : p.1 = x := of_decide_eq_true hx
    obtain ⟨fa, hns⟩ := g.ns j p.1 p.2 hj
    rw [e] at hns
    refine ⟨fun pins s σ H Q I q => ?_⟩
    obtain ⟨e, d, m, hf, q⟩ := q
    simp only [ev, Rs.ok.injEq] at hf
    subst hf
    exact (pe_glob (v := .ref fa) h4 (PySem.W.mg_of I.ok.mod.kin I.ok.mod.glob hns) rfl h5).run pins s σ H Q I (q _ H (Same.refl H) (.fn hns))) (fun _ x => by cases x <;> rfl) (fun _ x => by cases x <;> rfl) fun _ x h => by cases x <;> first | rfl | cases h
/-- the name's def is called -/
theorem callVar {pins : List (Addr × Obj)} {s : Shared} {σ : Stt} {H : Hp} {Q : VK} {e : Vn} {i : Nat} {x n : Str} {fa : Addr} {y : Expr} {ys : List Expr} {p pos : Pos} {t : TA} (g : Gd X C T) (hn : nmB T i n = true) (m : Mt' X.K G e σ H) (hv : gt e i = some (.v (fnD x))) (hm : X.mg x = some (.ref fa))
    (hk : PySem.W.keepIn X.K (.ref fa) = true) (I : Inv X pins σ H s) (ha : PA X (y :: ys) t) (h1 : notStar y = true) (h2 : ys.all notStar = true) {R : List V → Hp → Prop} (ht : t σ H R)
    (run : ∀ (us : List Value) (vs : List V) (s1 : Shared) (H1 : Hp), Inv X pins σ H1 s1 → Vals vs us → R vs H1 → wpAny (model X.prog X.w) X.A (call (.ref fa) us) (EP X pins σ Q) X.xe s1) :
    wpAny (model X.prog X.w) X.A (eval (.Call (.Name n p) (y :: ys) [] pos) X.env) (EP X pins σ Q) X.xe s := by
  obtain ⟨v, hσ, hr⟩ := m.val i _ hv
  obtain ⟨a, rfl, hns⟩ := rpFn hr
  have e1 := PySem.W.mg_of I.ok.mod.kin I.ok.mod.glob hns
  rw [hm] at e1
  cases e1
  refine wpAny_Call_Name_kw (thn ((peVar (pos := p) g hn).run pins s σ H (fun v H1 => v = .ref fa ∧ H1 = H) I ⟨_, hσ, rfl, rfl⟩) fun u s0 ⟨v, H0, I0, r0, e1, e2⟩ => ?_)
  subst e1
  subst e2
  obtain rfl : u = Value.ref fa := r0
  refine PySem.W.callWith_K (h₀ := X.base) I0.ok.mod.kin hk (thn (ha.run pos pins s0 σ H0 _ I0 ht) fun us s1 ⟨vs, H1, I1, r, q⟩ => ⟨I1.kIn, ?_⟩) (star_cons h1) (star_all h2)
  exact run us vs s1 H1 I1 r q
theorem pCv {as : Xps} (i : Nat) (cs : List (Str × Nat)) (h : PXs C as) : PX C (.cv i cs as) := lift (fun {X T G x} g q => by
    cases x <;> first | (cases q; done) | skip
    rename_i fn ys kw pos
    cases fn <;> first | (cases q; done) | skip
    rename_i n p
    cases ys with
    | nil => cases q
    | cons y ys =>
      cases kw with
      | cons _ _ => cases q
      | nil =>
        simp only [ck, Bool.and_eq_true] at q
        obtain ⟨⟨⟨h2, h3⟩, h4⟩, h5⟩ := q
        have h5' : notStar y = true ∧ ys.all notStar = true := by simpa only [List.all_cons, Bool.and_eq_true] using h5
        refine ⟨fun pins s σ H Q I w => ?_⟩
        obtain ⟨e, d, m, hf, w⟩ := w
        obtain ⟨ds, h6, h7⟩ := Rs.bind_eq_ok (show (evs C as e).bind _ = .ok d by simpa only [ev] using hf)
        obtain ⟨dv, h8, h9⟩ := Rs.bind_eq_ok h7
        obtain ⟨z, j, k1, rfl, k3⟩ := pickC_of h9 (fun z => nomatch z)
        obtain ⟨k, fa, fd, ps, m1, m2, m3, m4, m5⟩ := (g.fn j z (ys.length + 1) (of_decide_eq_true (List.all_eq_true.mp h3 _ k1))).ex
        refine callVar g h2 m (gt_some h8) m1 m2 I (h.val (G := G) g h4 h5) h5'.1 h5'.2 (R := fun vs H1 => Same H H1 ∧ RpA X.K (Fz G e σ H1) vs ds) ⟨e, ds, m, h6, fun vs H1 s1 r1 => ⟨s1, r1⟩⟩ fun us vs s1 H1 I1 r q => ?_
        refine run_fn (E := E0) (ds := []) (dvs := []) m3 (m4.mono (Nat.le_add_right k _)) m5 .nil pass0 I1 r ?_
        rw [List.append_nil]
        refine ⟨by rw [q.2.len, evs_len h4 h6, List.length_cons], (m.up q.1).tab, fun b => G.ban b ∨ Own e σ b, ds, d, fun b hb => ?_, q.2, k3, fun v H' s' r' => w v H' (q.1.trans s') r'⟩
        exact hb.elim ((m.up q.1).ban b) fun z => (m.up q.1).ownThere z)
  (fun _ x => by cases x <;> first | rfl | (rename_i ys kw _; cases ys <;> rfl)) (fun _ x => by cases x <;> first | rfl | (rename_i ys kw _; cases ys <;> rfl)) fun _ x h => by cases x <;> first | rfl | cases h
end
end Bk
/-! E11: the theorem for all expressions. -/
namespace Bk
open PySem PySem.Spec PyProof.Rows L2
mutual
theorem sX (Xw : Cx) (C : Cn) : ∀ a : Xp, PX C a
  | .var i => pVar i
  | .pk i => pPk i
  | .non => pNon Xw
  | .bl b => pBl Xw b
  | .int i => pInt Xw i
  | .str x => pStr Xw x
  | .glo x => pGlo x
  | .bin op a b => pBin op (sX Xw C a) (sX Xw C b)
  | .neg a => pNeg (sX Xw C a)
  | .nt a => pNt (sX Xw C a)
  | .bo op as => pBo op (sXs Xw C as)
  | .ife c a b => pIfe (sX Xw C c) (sX Xw C a) (sX Xw C b)
  | .cmp op a b => pCmp op (sX Xw C a) (sX Xw C b)
  | .cmp2 op op2 a b c => pCmp2 op op2 (sX Xw C a) (sX Xw C b) (sX Xw C c)
  | .tup as => pTup (sXs Xw C as) stars
  | .lst as => pLst (sXs Xw C as) stars
  | .ix a b => pIx (sX Xw C a) (sX Xw C b)
  | .sl a lo hi => pSl (sX Xw C a) (sXo Xw C lo) (sXo Xw C hi)
  | .rev a => pRev (sX Xw C a)
  | .call f as => pCall f (sXs Xw C as)
  | .callL f as => pCallL f (sXs Xw C as)
  | .bi f as => pBi f (sXs Xw C as)
  | .bad => pBad
  | .dnew t => pDnew t
  | .ddis ks as => pDdis (sXs Xw C as)
  | .dix a k => pDix (sX Xw C a) (sX Xw C k)
  | .din neg k a => pDin neg (sX Xw C k) (sX Xw C a)
  | .mxd mn a d => pMxd mn (sX Xw C a) (sX Xw C d)
  | .mnk j a => pMnk j (sX Xw C a)
  | .qa al el t w own => pQa (sX Xw C el) (sXw Xw C w)
  | .mt1 m o a => pMt1 m (sX Xw C o) (sX Xw C a)
  | .isn a t => pIsn t (sX Xw C a)
  | .lrg w => pNo fun T m x => by cases x <;> rfl
  | .fv x => pFv x
  | .cv i cs as => pCv i cs (sXs Xw C as)
  | .lc el t w cs own => pLc (sX Xw C el) (sXw Xw C w) (sXs Xw C cs)
  | .lc2 el t w cs t2 w2 cs2 own own2 => pLc2 (sX Xw C el) (sXw Xw C w) (sXs Xw C cs) (sXw Xw C w2) (sXs Xw C cs2)
theorem sXs (Xw : Cx) (C : Cn) : ∀ as : Xps, PXs C as
  | .nil => psNil
  | .cons a r => psCons (sX Xw C a) (sXs Xw C r)
theorem sXo (Xw : Cx) (C : Cn) : ∀ o : Xo, PXo C o
  | .no => poNo
  | .so a => poSo (sX Xw C a)
theorem sXw (Xw : Cx) (C : Cn) : ∀ w : Wk, PXw C w
  | .sq a => pwSq (sX Xw C a)
  | .tx a => pwTx (sX Xw C a)
  | .r1 a => pwR1 (sX Xw C a)
  | .r2 a b => pwR2 (sX Xw C a) (sX Xw C b)
  | .r3 _ _ _ => pwNo fun T m tg x => by cases x <;> rfl
  | .en a => pwEn (sX Xw C a)
  | .dk a => pwDk (sX Xw C a)
  | .zp a b => pwZp (sX Xw C a) (sX Xw C b)
end
end Bk
/-! E11b: terms that may raise; terms of an except clause. -/
namespace Bk
open PySem PySem.Spec PyProof.Rows L2
/-- a reading with an exception's wish -/
def EndX (K : Fg) (G : Gh) (W : WX) (e : Vn) (σ : Stt) (H : Hp) (Q : VK) : Rs D → Prop
  | .ok d => ∀ v H', Same H H' → Rp K (Fz G e σ H') v d → Q v H'
  | .er c xs => ∀ cls d H', Same H H' → ExcV K c xs cls d H' → W cls d σ H'
  | .st => False
def tEX (K : Fg) (G : Gh) (W : WX) (f : Vn → Rs D) : TE := fun σ H Q => ∃ e, Mt' K G e σ H ∧ EndX K G W e σ H Q (f e)
theorem EndX.up {K : Fg} {G : Gh} {W : WX} {e : Vn} {σ : Stt} {H H1 : Hp} {Q : VK} (s : Same H H1) : ∀ {r : Rs D}, EndX K G W e σ H Q r → EndX K G W e σ H1 Q r
  | .ok _, h => fun v H' s' r => h v H' (s.trans s') r
  | .er _ _, h => fun cls d H' s' x => h cls d H' (s.trans s') x
  | .st, h => h
theorem EndX.spX {K : Fg} {G : Gh} {W : WX} {e : Vn} {σ : Stt} {H H1 : Hp} {Q : VK} {F : List D → Rs D} {vs : List V} {ds : List D} {n : Nat} (m : Mt' K G e σ H) (s : Same H H1) (hl : vs.length = n) (r : RpA K (Fz G e σ H1) vs ds) (h : EndX K G W e σ H Q (F ds)) : Bk.spX K n F vs H1 Q (WE W σ) := by
  refine ⟨hl, (m.up s).tab, fun b => G.ban b ∨ Own e σ b, ds, fun b hb => hb.elim ((m.up s).ban b) fun z => (m.up s).ownThere z, r, ?_⟩
  cases q : F ds with
  | ok d =>
    rw [q] at h
    exact fun v H' s' r' => h v H' (s.trans s') r'
  | er c xs =>
    rw [q] at h
    exact fun cls d H' s' x => h cls d H' (s.trans s') x
  | st =>
    rw [q] at h
    exact h
section
variable {X : Cx} {C : Cn} {T : Tb} {G : Gh} {W : WX}
theorem calmBind {α : Type} {K : Fg} {e : Vn} {σ : Stt} {H : Hp} {Q : VK} {r : Rs α} {f : α → Rs D} (h : EndX K G W e σ H Q (r.calm.bind f)) : ∃ a, r = .ok a ∧ EndX K G W e σ H Q (f a) := by
  cases r with
  | ok a => exact ⟨a, rfl, h⟩
  | er _ _ => exact h.elim
  | st => exact h.elim
theorem peR (g : Gd X C T) (fx : ∀ (j : Nat) (f : Str) (n : Nat), T.fns[j]? = some (f, n) → FnInX X (C.fn j) f n) (tk : Takes X W) : ∀ (r : Xr) {x : Expr}, ckR T r x = true → PE X x (tEX X.K G W (evr C r))
  | .x a, x, h => by
    simp only [ckR, Bool.and_eq_true] at h
    refine peImp ((sX X C a).val (G := G) g h.2) fun σ H Q q => ?_
    obtain ⟨e, m, q⟩ := q
    simp only [evr] at q
    cases r : ev C a e with
    | ok d =>
      rw [r] at q
      exact ⟨e, d, m, r, q⟩
    | er _ _ => rw [r] at q; exact q.elim
    | st => rw [r] at q; exact q.elim
  | .call j as, x, q => by
    unfold ckR at q
    split at q
    · rename_i n p y ys pos
      simp only [Bool.and_eq_true, decide_eq_true_eq] at q
      obtain ⟨⟨⟨h2, h3⟩, h4⟩, h5⟩ := q
      have h5' : notStar y = true ∧ ys.all notStar = true := by simpa only [List.all_cons, Bool.and_eq_true] using h5
      obtain ⟨k, fa, fd, ps, k1, k2, k3, k4, k5⟩ := (fx j n (ys.length + 1) h3).ex
      refine peImp (pe_callS (E := WE W) k3 k4 (glOf g h2).1 k1 k2 k5 (fun σ => passAt tk σ) ((sXs X C as).val (G := G) g h4 h5) (glOf g h2).2 (star_cons h5'.1) (star_all h5'.2)) fun σ H Q w => ?_
      obtain ⟨e, m, w⟩ := w
      obtain ⟨ds, h6, h7⟩ := calmBind (show EndX X.K G W e σ H Q ((evs C as e).calm.bind fun xs => C.fn j xs) from w)
      exact ⟨e, ds, m, h6, fun vs H1 s1 r1 => EndX.spX m s1 (by rw [r1.len, evs_len h4 h6, List.length_cons]) r1 h7⟩
    · cases q
  | .cv i cs as, x, q => by
    unfold ckR at q
    split at q
    · rename_i n p y ys pos
      simp only [Bool.and_eq_true] at q
      obtain ⟨⟨⟨h2, h3⟩, h4⟩, h5⟩ := q
      have h5' : notStar y = true ∧ ys.all notStar = true := by simpa only [List.all_cons, Bool.and_eq_true] using h5
      refine ⟨fun pins s σ H Q I w => ?_⟩
      obtain ⟨e, m, w⟩ := w
      obtain ⟨ds, h6, h7⟩ := calmBind (show EndX X.K G W e σ H Q ((evs C as e).calm.bind fun xs => (vl (gt e i)).bind fun d => pickC C cs d xs) from w)
      cases h8 : vl (gt e i) with
      | er _ _ =>
        exfalso
        cases q : gt e i with
        | none => rw [q] at h8; cases h8
        | some z => rw [q] at h8; cases z <;> cases h8
      | st => rw [h8] at h7; exact h7.elim
      | ok dv =>
        rw [h8] at h7
        simp only [Rs.bind_ok] at h7
        obtain ⟨z, j, k1, rfl, k3⟩ := pickC_of (r := pickC C cs dv ds) rfl (fun z => by rw [z] at h7; exact h7)
        rw [← k3] at h7
        obtain ⟨k, fa, fd, ps, m1, m2, m3, m4, m5⟩ := (fx j z (ys.length + 1) (of_decide_eq_true (List.all_eq_true.mp h3 _ k1))).ex
        refine callVar g h2 m (gt_some h8) m1 m2 I ((sXs X C as).val (G := G) g h4 h5) h5'.1 h5'.2 (R := fun vs H1 => Same H H1 ∧ RpA X.K (Fz G e σ H1) vs ds) ⟨e, ds, m, h6, fun vs H1 s1 r1 => ⟨s1, r1⟩⟩ fun us vs s1 H1 I1 r q => ?_
        exact run_fnS (E := WE W) m3 m4 m5 (passAt tk σ) I1 r (EndX.spX m q.1 (by rw [q.2.len, evs_len h4 h6, List.length_cons]) q.2 h7)
    · cases q
  | .ife c a b, x, q => by
    unfold ckR at q
    split at q
    · simp only [Bool.and_eq_true] at q
      obtain ⟨⟨h1, h2⟩, h3⟩ := q
      refine peImp (pe_ifExp ((sX X C c).test (G := G) g h1) (peR g fx tk a h2) (peR g fx tk b h3)) fun σ H Q w => ?_
      obtain ⟨e, m, w⟩ := w
      obtain ⟨k, h6, h7⟩ := calmBind (show EndX X.K G W e σ H Q (((ev C c e).bind tru).calm.bind fun k => if k then evr C a e else evr C b e) from w)
      refine ⟨e, k, m, h6, fun H1 s => ?_⟩
      cases k with
      | true => exact ⟨e, m.up s, EndX.up s h7⟩
      | false => exact ⟨e, m.up s, EndX.up s h7⟩
    · cases q
end
end Bk
namespace Bk
open PySem PySem.Spec PyProof.Rows L2
/-! ### an except clause's terms -/
/-- the exception at a: its slot, its fields -/
structure Hot (K : Fg) (c : Str) (xs : List (Str × D)) (a : Addr) (cls : Value) (d : Option Addr) (i : Nat) (σ : Stt) (H : Hp) : Prop where
  at_ : i < σ.length → σ[i]? = some (some (.ref a))
  exc : ExcV K c xs cls d H
theorem Hot.up {K : Fg} {c : Str} {xs : List (Str × D)} {a : Addr} {cls : Value} {d : Option Addr} {i : Nat} {σ : Stt} {H H' : Hp} (h : Hot K c xs a cls d i σ H) (s : Same H H') : Hot K c xs a cls d i σ H' := ⟨h.at_, h.exc.up s⟩
def tH (K : Fg) (G : Gh) (R : Stt → Hp → Prop) (f : Vn → Rs D) : TE := fun σ H Q => ∃ e x, Mt' K G e σ H ∧ R σ H ∧ f e = .ok x ∧ ∀ v H', Same H H' → Rp K (Fz G e σ H') v x → Q v H'
def tHQ (K : Fg) (G : Gh) (R : Stt → Hp → Prop) (f : Vn → Rs Bool) : TT := fun σ H Q => ∃ e b, Mt' K G e σ H ∧ R σ H ∧ f e = .ok b ∧ ∀ H', Same H H' → Q b H'
section
variable {X : Cx} {C : Cn} {T : Tb} {G : Gh}
theorem hxAll {c : Str} {fs : List Str} {xs : List (Str × D)} {a Ca : Addr} {oe : Obj} {cls : Value} {d : Option Addr} {i : Nat} {pn : List (Addr × Obj)} (g : Gd X C T) (hc : PySem.W.nsIn X.K mainGlobals c = some (some (.ref Ca))) (xf : XfC X.K Ca) (hno : ∀ f ∈ fs, PySem.W.findIn X.K (.ref Ca) f = some none)
    (hz : Zc cls d oe) (hf : ∃ vs, oe.data = .fields vs) : ∀ (h : Hx) {x : Expr}, ckHx T i fs h x = true →
      PE (X.suite a ((a, oe) :: pn)) x (tH X.K G (Hot X.K c xs a cls d i) (evH xs h)) ∧ PT (X.suite a ((a, oe) :: pn)) x (tHQ X.K G (Hot X.K c xs a cls d i) fun e => (evH xs h e).bind tru) := by
  have hu : (X.suite a ((a, oe) :: pn)).A.units + 64 < cLine := g.un
  have var : ∀ {j : Nat} {n : Str} {pos : Pos}, nmB T j n = true → PE (X.suite a ((a, oe) :: pn)) (.Name n pos) (tVar j) := fun {j n pos} hn => by
    unfold nmB at hn
    simp only [Bool.and_eq_true, decide_eq_true_eq] at hn
    obtain ⟨⟨h1, h2⟩, h3⟩ := hn
    exact pe_var (X := X.suite a ((a, oe) :: pn)) (by show X.N[j]? = _; rw [g.N]; exact h1) (visOf g h2) (dbgOf h3).1 (dbgOf h3).2
  have tst : ∀ {h : Hx} {x : Expr}, plainT x = true → PE (X.suite a ((a, oe) :: pn)) x (tH X.K G (Hot X.K c xs a cls d i) (evH xs h)) → PT (X.suite a ((a, oe) :: pn)) x (tHQ X.K G (Hot X.K c xs a cls d i) fun e => (evH xs h e).bind tru) := fun {h x} hp hv =>
    ptImp (pt_truth hv fun wh => isTrue_of hp X.env wh) fun σ H Q q => by
      obtain ⟨e, b, m, r, hf, q⟩ := q
      obtain ⟨dx, h1, h2⟩ := Rs.bind_eq_ok hf
      exact ⟨e, dx, m, r, h1, fun v H' s rv => ⟨b, tru_V (m.up s) (.inl rv) h2, q H' s⟩⟩
  intro h
  induction h with
  | fld f =>
    intro x q
    unfold ckHx at q
    split at q
    · rename_i n p g2 p2
      simp only [Bool.and_eq_true, decide_eq_true_eq] at q
      obtain ⟨⟨⟨rfl, h2⟩, h3⟩, h4⟩ := q
      have hv : PE (X.suite a ((a, oe) :: pn)) (.Attribute (.Name n p) f p2) (tH X.K G (Hot X.K c xs a cls d i) (evH xs (.fld f))) := by
        refine ⟨fun pins s σ H Q I w => (pe_xf xf (hno f h2) hz hf (var h3)).run pins s σ H Q I ?_⟩
        have hi : i < σ.length := by
          have z := I.len
          unfold nmB at h3
          simp only [Bool.and_eq_true, decide_eq_true_eq] at h3
          have h8 := (List.getElem?_eq_some_iff.mp h3.1.1).1
          have h9 : X.N = T.N := g.N
          have z' : σ.length = X.N.length := z
          rw [z', h9]
          exact h8
        obtain ⟨e, x, m, r, hx, w⟩ := w
        obtain ⟨C', dd, vs, e1, e2, e3, e4, e5⟩ := r.exc
        rw [hc] at e1
        cases e1
        have hx' : fldH xs f = .ok x := hx
        unfold fldH at hx'
        split at hx'
        · rename_i d1 hl
          cases hx'
          obtain ⟨v, l1, l2⟩ := e5 f _ hl
          exact ⟨.ref a, r.at_ hi, rfl, e2, dd, vs, v, e3, e4, l1, w v H (Same.refl H) (l2 _)⟩
        · cases hx'
      exact ⟨hv, tst rfl hv⟩
    · cases q
  | var j =>
    intro x q
    unfold ckHx at q
    split at q
    · rename_i n pos
      have hv : PE (X.suite a ((a, oe) :: pn)) (.Name n pos) (tH X.K G (Hot X.K c xs a cls d i) (evH xs (.var j))) := peImp (var q) fun σ H Q w => by
        obtain ⟨e, x, m, r, hx, w⟩ := w
        obtain ⟨v, h1, h2⟩ := m.val j x (gt_some hx)
        exact ⟨v, h1, w v H (Same.refl H) h2⟩
      exact ⟨hv, tst rfl hv⟩
    · cases q
  | non =>
    intro x q
    unfold ckHx at q
    split at q
    · rename_i j9 p9
      have hv : PE (X.suite a ((a, oe) :: pn)) (.Constant .none j9 p9) (tH X.K G (Hot X.K c xs a cls d i) (evH xs .non)) := peImp pe_non fun σ H Q w => by
        obtain ⟨e, x, m, r, hx, w⟩ := w
        cases hx
        exact w _ H (Same.refl H) .non
      exact ⟨hv, tst rfl hv⟩
    · cases q
  | bl b =>
    intro x q
    unfold ckHx at q
    split at q
    · rename_i w9 j9 p9
      have e := of_decide_eq_true q
      subst e
      have hv : PE (X.suite a ((a, oe) :: pn)) (.Constant (.bool b) j9 p9) (tH X.K G (Hot X.K c xs a cls d i) (evH xs (.bl b))) := peImp pe_bl fun σ H Q w => by
        obtain ⟨e, x, m, r, hx, w⟩ := w
        cases hx
        exact w _ H (Same.refl H) (.bl _)
      exact ⟨hv, tst rfl hv⟩
    · cases q
  | int b =>
    intro x q
    unfold ckHx at q
    split at q
    · rename_i w9 j9 p9
      have e := of_decide_eq_true q
      subst e
      have hv : PE (X.suite a ((a, oe) :: pn)) (.Constant (.int b) j9 p9) (tH X.K G (Hot X.K c xs a cls d i) (evH xs (.int b))) := peImp pe_int fun σ H Q w => by
        obtain ⟨e, x, m, r, hx, w⟩ := w
        cases hx
        exact w _ H (Same.refl H) (.int _)
      exact ⟨hv, tst rfl hv⟩
    · cases q
  | str b =>
    intro x q
    unfold ckHx at q
    split at q
    · rename_i w9 j9 p9
      have e := of_decide_eq_true q
      subst e
      have hv : PE (X.suite a ((a, oe) :: pn)) (.Constant (.str b) j9 p9) (tH X.K G (Hot X.K c xs a cls d i) (evH xs (.str b))) := peImp pe_str fun σ H Q w => by
        obtain ⟨e, x, m, r, hx, w⟩ := w
        cases hx
        exact w _ H (Same.refl H) (.str _)
      exact ⟨hv, tst rfl hv⟩
    · cases q
  | cmp op l r ihl ihr =>
    intro x q
    unfold ckHx at q
    split at q
    · simp only [Bool.and_eq_true, decide_eq_true_eq] at q
      obtain ⟨⟨⟨rfl, h1⟩, h2⟩, h3⟩ := q
      have rd : ∀ {σ H Q} {e : Vn} {x : D}, Mt' X.K G e σ H → Hot X.K c xs a cls d i σ H → evH xs (.cmp op l r) e = .ok x → (∀ v H', Same H H' → Rp X.K (Fz G e σ H') v x → Q v H') → tOp (rCmp X.K op) (tH X.K G (Hot X.K c xs a cls d i) (evH xs l)) (tH X.K G (Hot X.K c xs a cls d i) (evH xs r)) σ H Q := fun {σ H Q e x} m ht hx w => by
        obtain ⟨dx, k1, k2⟩ := Rs.bind_eq_ok (show (evH xs l e).bind _ = .ok x by simpa only [evH] using hx)
        obtain ⟨dy, k3, k4⟩ := Rs.bind_eq_ok k2
        unfold cmpH at k4
        split at k4
        · obtain ⟨b, k5, k6⟩ := Rs.bind_eq_ok k4
          cases k6
          exact ⟨e, dx, m, ht, k1, fun v H1 s1 r1 => ⟨e, dy, m.up s1, ht.up s1, k3, fun v2 H2 s2 r2 => ok_cmpB op (m.up (s1.trans s2)) (.inl (r1.up (fz_up s2))) (.inl r2) k5 (w _ H2 (s1.trans s2) (.bl _))⟩⟩
        · cases k4
      refine ⟨peImp (pe_cmpR (op_cmp hu op) (ihl h1).1 (ihr h2).1 (noSet h3 op)) fun σ H Q w => ?_, ptImp (pt_cmpR (op_cmp hu op) (ihl h1).1 (ihr h2).1 (noSet h3 op)) fun σ H Q w => ?_⟩
      · obtain ⟨e, x, m, ht, hx, w⟩ := w
        exact rd m ht hx w
      · obtain ⟨e, b, m, ht, hx, w⟩ := w
        obtain ⟨dx, h4, h5⟩ := Rs.bind_eq_ok hx
        refine rd (Q := fun x H' => ∃ k, x = .bl k ∧ Q k H') m ht h4 fun v H' s rv => ?_
        obtain ⟨d1, k1, k2⟩ := Rs.bind_eq_ok (show (evH xs l e).bind _ = .ok dx by simpa only [evH] using h4)
        obtain ⟨d2, k3, k4⟩ := Rs.bind_eq_ok k2
        unfold cmpH at k4
        split at k4
        · obtain ⟨b2, k5, k6⟩ := Rs.bind_eq_ok k4
          cases k6
          cases h5
          cases rv
          exact ⟨_, rfl, w H' s⟩
        · cases k4
    · cases q
  | bo op l r ihl ihr =>
    intro x q
    unfold ckHx at q
    split at q
    · simp only [Bool.and_eq_true, decide_eq_true_eq] at q
      obtain ⟨⟨rfl, h1⟩, h2⟩ := q
      cases op with
      | And =>
        refine ⟨peImp (pe_andT (ihl h1).1 (pe_one (ihr h2).1)) fun σ H Q w => ?_, ?_⟩
        · obtain ⟨e, x, m, ht, hx, w⟩ := w
          obtain ⟨dx, k1, k2⟩ := Rs.bind_eq_ok (show (evH xs l e).bind _ = .ok x by simpa only [evH] using hx)
          obtain ⟨k, k3, k4⟩ := Rs.bind_eq_ok k2
          refine ⟨e, dx, m, ht, k1, fun v H1 s1 r1 => ⟨k, tru_V (m.up s1) (.inl r1) k3, ?_⟩⟩
          cases k with
          | true => exact ⟨e, x, m.up s1, ht.up s1, k4, fun v' H' s' r' => w v' H' (s1.trans s') r'⟩
          | false =>
            cases k4
            exact w v H1 s1 r1
        · refine ptImp (pw_and (ihl h1).2 (pw_and1 (ihr h2).2)).pt fun σ H Q w => ?_
          obtain ⟨e, b', m, ht, hx, w⟩ := w
          obtain ⟨x, h0, h5⟩ := Rs.bind_eq_ok hx
          obtain ⟨dx, k1, k2⟩ := Rs.bind_eq_ok (show (evH xs l e).bind _ = .ok x by simpa only [evH] using h0)
          obtain ⟨k, k3, k4⟩ := Rs.bind_eq_ok k2
          refine ⟨e, k, m, ht, bindOk k1 k3, fun H1 s1 => ?_⟩
          cases k with
          | true => exact ⟨e, b', m.up s1, ht.up s1, bindOk (show evH xs r e = .ok x from k4) h5, fun H' s' => w H' (s1.trans s')⟩
          | false =>
            cases k4
            rw [k3] at h5
            cases h5
            exact w H1 s1
      | Or =>
        refine ⟨peImp (pe_orT (ihl h1).1 (pe_one (ihr h2).1)) fun σ H Q w => ?_, ?_⟩
        · obtain ⟨e, x, m, ht, hx, w⟩ := w
          obtain ⟨dx, k1, k2⟩ := Rs.bind_eq_ok (show (evH xs l e).bind _ = .ok x by simpa only [evH] using hx)
          obtain ⟨k, k3, k4⟩ := Rs.bind_eq_ok k2
          refine ⟨e, dx, m, ht, k1, fun v H1 s1 r1 => ⟨k, tru_V (m.up s1) (.inl r1) k3, ?_⟩⟩
          cases k with
          | false => exact ⟨e, x, m.up s1, ht.up s1, k4, fun v' H' s' r' => w v' H' (s1.trans s') r'⟩
          | true =>
            cases k4
            exact w v H1 s1 r1
        · refine ptImp (pw_or (ihl h1).2 (pw_or1 (ihr h2).2)).pt fun σ H Q w => ?_
          obtain ⟨e, b', m, ht, hx, w⟩ := w
          obtain ⟨x, h0, h5⟩ := Rs.bind_eq_ok hx
          obtain ⟨dx, k1, k2⟩ := Rs.bind_eq_ok (show (evH xs l e).bind _ = .ok x by simpa only [evH] using h0)
          obtain ⟨k, k3, k4⟩ := Rs.bind_eq_ok k2
          refine ⟨e, k, m, ht, bindOk k1 k3, fun H1 s1 => ?_⟩
          cases k with
          | false => exact ⟨e, b', m.up s1, ht.up s1, bindOk (show evH xs r e = .ok x from k4) h5, fun H' s' => w H' (s1.trans s')⟩
          | true =>
            cases k4
            rw [k3] at h5
            cases h5
            exact w H1 s1
    · cases q
  | nt l ihl =>
    intro x q
    unfold ckHx at q
    split at q
    · refine ⟨peImp (pe_notT (ihl q).1) fun σ H Q w => ?_, ptImp (pt_not (ihl q).2) fun σ H Q w => ?_⟩
      · obtain ⟨e, x, m, ht, hx, w⟩ := w
        obtain ⟨dx, k1, k2⟩ := Rs.bind_eq_ok (show (evH xs l e).bind _ = .ok x by simpa only [evH] using hx)
        obtain ⟨k, k3, k4⟩ := Rs.bind_eq_ok k2
        cases k4
        exact ⟨e, dx, m, ht, k1, fun v H1 s r => ⟨k, tru_V (m.up s) (.inl r) k3, w _ H1 s (.bl _)⟩⟩
      · obtain ⟨e, b, m, ht, hx, w⟩ := w
        obtain ⟨x, h0, h5⟩ := Rs.bind_eq_ok hx
        obtain ⟨dx, k1, k2⟩ := Rs.bind_eq_ok (show (evH xs l e).bind _ = .ok x by simpa only [evH] using h0)
        obtain ⟨k, k3, k4⟩ := Rs.bind_eq_ok k2
        cases k4
        cases h5
        exact ⟨e, k, m, ht, bindOk k1 k3, fun H' s => w H' s⟩
    · cases q
  | ife t l r iht ihl ihr =>
    intro x q
    unfold ckHx at q
    split at q
    · simp only [Bool.and_eq_true] at q
      obtain ⟨⟨h0, h1⟩, h2⟩ := q
      refine ⟨peImp (pe_ifExp (iht h0).2 (ihl h1).1 (ihr h2).1) fun σ H Q w => ?_, ptImp (pt_ifE (iht h0).2 (ihl h1).2 (ihr h2).2) fun σ H Q w => ?_⟩
      · obtain ⟨e, x, m, ht, hx, w⟩ := w
        obtain ⟨dx, k1, k2⟩ := Rs.bind_eq_ok (show (evH xs t e).bind _ = .ok x by simpa only [evH] using hx)
        obtain ⟨k, k3, k4⟩ := Rs.bind_eq_ok k2
        refine ⟨e, k, m, ht, bindOk k1 k3, fun H1 s => ?_⟩
        cases k with
        | true => exact ⟨e, x, m.up s, ht.up s, k4, fun v H' s' r => w v H' (s.trans s') r⟩
        | false => exact ⟨e, x, m.up s, ht.up s, k4, fun v H' s' r => w v H' (s.trans s') r⟩
      · obtain ⟨e, b, m, ht, hx, w⟩ := w
        obtain ⟨x, h0, h5⟩ := Rs.bind_eq_ok hx
        obtain ⟨dx, k1, k2⟩ := Rs.bind_eq_ok (show (evH xs t e).bind _ = .ok x by simpa only [evH] using h0)
        obtain ⟨k, k3, k4⟩ := Rs.bind_eq_ok k2
        refine ⟨e, k, m, ht, bindOk k1 k3, fun H1 s => ?_⟩
        cases k with
        | true => exact ⟨e, b, m.up s, ht.up s, bindOk (show evH xs l e = .ok x from k4) h5, fun H' s' => w H' (s.trans s')⟩
        | false => exact ⟨e, b, m.up s, ht.up s, bindOk (show evH xs r e = .ok x from k4) h5, fun H' s' => w H' (s.trans s')⟩
    · cases q
end
end Bk
/-! E12: the soundness of statements. -/
namespace Bk
open PySem PySem.Spec PyProof.Rows L2
structure GdS (X : Cx) (C : Cn) (T : Tb) (W : WX) : Prop where
  g : Gd X C T
  fx : ∀ (j : Nat) (f : Str) (n : Nat), T.fns[j]? = some (f, n) → FnInX X (C.fn j) f n
  xc : ∀ (c : Str) (fs : List Str), (c, fs) ∈ T.xcs → XcIn X c fs
  xd : ∀ (c c' : Str) (fs fs' : List Str) (a b : Addr), (c, fs) ∈ T.xcs → (c', fs') ∈ T.xcs → PySem.W.nsIn X.K mainGlobals c = some (some (.ref a)) → PySem.W.nsIn X.K mainGlobals c' = some (some (.ref b)) → PySem.W.exmOne X.K (.ref a) (.ref b) = some (decide (c = c'))
  tk : Takes X W
  st : X.stack = X.env :: X.outer
  fr : X.env.frame = some X.env.locals
  fn : ∀ y, X.fn y = true
  kind : T.sc.kind = .function
  pass : PassesOwn (model X.prog X.w) X.A X.env X.xe
section
variable {X : Cx} {C : Cn} {T : Tb} {G : Gh} {W : WX}
/-- a list of any kind is appended to an owned one -/
theorem ext_meets (l : Addr) (items : Array Value) (n : Nat) (b : Addr) (items2 : Array Value) (n2 : Nat) (dd2 : Option Addr) (sl2 : Array (Option Value)) (hc0 : ¬(!items.isEmpty && Builtin.List.listTooLong (items.size + items2.size)) = true) (hc1 : items.size ≤ sizeLine) (hs2 : items.size + items2.size ≤ sizeLine + 1) :
    Meets (Builtin.«list.extend» ⟨[.ref l, .ref b], []⟩) (fun _ R s => s.heap.get? l = some { cls := .type "list", dict := none, data := .seq items n, slots := #[] } ∧ s.heap.get? b = some { cls := .type "list", dict := dd2, data := .seq items2 n2, slots := sl2 } ∧
      R (.ok (.ret Value.none)) { s with heap := s.heap.update l (Obj.mapSeq fun x => x ++ items2), toks := s.toks }) :=
  .of_wp fun prog w A R s h => by
    obtain ⟨hp, g, d, tk, os⟩ := s
    obtain ⟨hl, hb, h⟩ := h
    have f1 := AutoSeq1.idx_int
    have f2 := AutoSeq1.sub_tuple_tuple
    have f3 := AutoSeq1.sub_list_list
    have f4 := AutoSeq1.sub_tuple_list
    have f5 := AutoSeq1.sub_list_tuple
    have hz : (items ++ items2).size ≤ sizeLine + 1 := by rw [Array.size_append]; exact hs2
    wp_walk using (wpAny_updateSeq hl rfl (hz := hc1) (_hz' := hz)), wpAny_loadPart' hl, wpAny_loadPart' hb
    exact ⟨_, rfl, h⟩
def rExtA (K : Fg) : V → List V → Hp → VK → Prop := fun x vs H Q => ∃ l b xs zs, x = .ref l ∧ vs = [.ref b] ∧ H l = some (.lst xs) ∧ SqL K H b zs ∧ xs.length + zs.length ≤ sizeLine ∧ Q .non (upd H l (.lst (xs ++ zs)))
theorem mt_extA : MtM X "list.extend" (rExtA X.K) := by
  intro pins s σ H x vs v us Q I rx rv h
  obtain ⟨l, b, xs, zs, rfl, rfl, hH, hB, hz, q⟩ := h
  cases rx
  obtain ⟨u, rfl, ru⟩ := rv.one
  cases ru
  obtain ⟨z, its, n, r, hl, e⟩ := I.lstM hH
  obtain ⟨its2, r2, ⟨o2, n2, g2, c2, d2, e2⟩, _⟩ := I.list hB
  obtain ⟨oc2, od2, dt2, sl2⟩ := o2
  simp only at c2 d2 e2
  subst c2 d2 e2
  have hl2 := r2.length
  have hsz : its.toArray.size + its2.toArray.size ≤ sizeLine := by rw [List.size_toArray, List.size_toArray]; omega
  have hlong : ¬ (!its.toArray.isEmpty && Builtin.List.listTooLong (its.toArray.size + its2.toArray.size)) = true := by
    rw [notLongL hsz, Bool.and_false]
    exact Bool.false_ne_true
  refine call_meets F.slot_list_extend ⟨_, e, rfl⟩ F.entry_list_extend (F.args_list_extend_2 _ _)
    (ext_meets l its.toArray n b its2.toArray n2 _ _ hlong (by rw [List.size_toArray]; omega) (by omega)) ⟨e, g2, ?_⟩
  refine ⟨.non, _, I.lset (its' := its ++ its2) hH e (by simp) (r.append r2) ?_, rfl, q⟩
  rw [List.length_append]
  omega

/-! ### the small ones -/
theorem swNo {y : Expr} (h : notComp y = true) (t : Option Expr) (l : Nat) (env : Env) : swapsWith y t l env = pure false := by
  cases y <;> first | rfl | cases h
theorem pssSt {s : Sm} {x : Stmt} (h : PS X x (tS X.K G W (ex C s))) : PS X x (tS X.K G W (ex C s)) := h
theorem stEx {a : Xp} {y : Expr} {pos : Pos} (g : GdS X C T W) (hn : notComp y = true) (h : ck T .lent a y = true) : PS X (.Expr y pos) (tS X.K G W (ex C (.ex a))) := by
  refine psImp (ps_expr ((sX X C a).lent (G := G) g.g h) (swNo hn _ _ _)) fun D σ H q => ?_
  obtain ⟨e, m, q⟩ := q
  obtain ⟨d, h1, h2⟩ := post_to (by simpa only [ex] using q)
  exact ⟨e, d, m, h1, fun v H' s _ => h2 σ H' (m.up s) (fz_up s)⟩
/-- name = value, with the loop over the two ways of storing a comprehension -/
theorem stAsg {i : Nat} {n : Str} {py pos : Pos} {y : Expr} {t : TE} (g : GdS X C T W) (hs : slB T i n = true) (hp : PE X y t) (hl : notComp y = true ∨ ∃ el gs sc ps, y = .ListComp el gs sc ps)
    (hset : swapsWith y (some (.Name n py)) pos.line X.env = pure true → PS X (.Assign [.Name n py] y pos) (tAsg t (gName i))) : PS X (.Assign [.Name n py] y pos) (tAsg t (gName i)) := by
  simp only [slB, Bool.and_eq_true, decide_eq_true_eq] at hs
  have plain : swapsWith y (some (.Name n py)) pos.line X.env = pure false → PS X (.Assign [.Name n py] y pos) (tAsg t (gName i)) := fun z =>
    ps_set (i := i) (by rw [g.g.N]; exact g.g.nd) (by rw [g.g.N]; exact hs.1) (locOf g.g hs.2) hp z (.inl (g.fn n))
  rcases hl with hl | ⟨el, gs, sc, ps, rfl⟩
  · exact plain (swNo hl _ _ _)
  · have hv : swapsWith (.ListComp el gs sc ps) (some (.Name n py)) pos.line X.env = pure (X.env.blockKind == .function && X.env.kindOf n == some .local && py.line == ps.line && !(sc.names.any fun (m, k) => m == n && (k == .local || k == .cell))) := rfl
    cases q : (X.env.blockKind == .function && X.env.kindOf n == some .local && py.line == ps.line && !(sc.names.any fun (m, k) => m == n && (k == .local || k == .cell))) with
    | false => exact plain (by rw [hv, q])
    | true => exact hset (by rw [hv, q])
theorem swLocal {el : Expr} {gs : List Comprehension} {sc : Scope} {ps py : Pos} {n : Str} {l : Nat} (z : swapsWith (.ListComp el gs sc ps) (some (.Name n py)) l X.env = pure true) : X.env.scope.names.lookup n = some .local := by
  have hv : swapsWith (.ListComp el gs sc ps) (some (.Name n py)) l X.env = pure (X.env.blockKind == .function && X.env.kindOf n == some .local && py.line == ps.line && !(sc.names.any fun (m, k) => m == n && (k == .local || k == .cell))) := rfl
  rw [hv] at z
  cases q : (X.env.kindOf n == some .local) with
  | true => exact eq_of_beq q
  | false =>
    rw [q] at z
    simp only [Bool.and_false, Bool.false_and] at z
    have := congrArg (fun (t : Sem Bool) => t) z
    injection this with h1
    first | cases h1 | (injection h1 with h2; cases h2)

theorem compOr {a : Xp} {y : Expr} (h : ck T .val a y = true) : notComp y = true ∨ (∃ el t w cs own, a = .lc el t w cs own ∧ ∃ b gs sc ps, y = .ListComp b gs sc ps) ∨ ∃ el t w cs t2 w2 cs2 own own2, a = .lc2 el t w cs t2 w2 cs2 own own2 := by
  cases y <;> first | (exact .inl rfl) | skip
  · cases a <;> first | (cases h; done) | exact .inr (.inl ⟨_, _, _, _, _, rfl, _, _, _, _, rfl⟩) | exact .inr (.inr ⟨_, _, _, _, _, _, _, _, _, rfl⟩)
  · cases a <;> cases h
  · cases a <;> cases h
theorem setRead {a : Xp} {i : Nat} {D : Ends} {σ : Stt} {H : Hp} {K : Fg} (q : tS K G W (ex C (.set i a)) D σ H) : tE K G (ev C a) σ H fun x H1 => D.nx (σ.set i (some x)) H1 := by
  obtain ⟨e, m, q⟩ := q
  obtain ⟨d, h1, h2⟩ := post_to (by simpa only [ex] using q)
  refine ⟨e, d, m, h1, fun v H' s r => ?_⟩
  obtain ⟨m2, s2⟩ := (m.up s).putV r i
  exact h2 _ H' m2 ((fz_up s).trans s2)
theorem setORead {a : Xp} {i : Nat} {D : Ends} {σ : Stt} {H : Hp} {K : Fg} (q : tS K G W (ex C (.setO i a)) D σ H) : tO K G (ev C a) σ H fun x H1 => D.nx (σ.set i (some x)) H1 := by
  obtain ⟨e, m, q⟩ := q
  obtain ⟨d, h1, h2⟩ := post_to (by simpa only [ex] using q)
  refine ⟨e, d, m, h1, fun v H' s hn r => ?_⟩
  obtain ⟨m2, s2⟩ := m.putNew s hn r i
  exact h2 _ H' m2 s2
theorem augRead {a : Xp} {i : Nat} {D : Ends} {σ : Stt} {H : Hp} {K : Fg} (q : tS K G W (ex C (.aug i .Add a)) D σ H) : tAug i (tE K G (ev C a)) (ipI fun i j => i + j) D σ H := by
  obtain ⟨e, m, q⟩ := q
  obtain ⟨d, h1, h2⟩ := post_to (by simpa only [ex] using q)
  obtain ⟨d2, h3, h4⟩ := post_to h2
  obtain ⟨d3, h5, h6⟩ := post_to h4
  have hv : gt e i = some (.v d) := by
    revert h1
    cases gt e i with
    | none => intro z; cases z
    | some s => cases s <;> intro z <;> cases z; rfl
  obtain ⟨v, h7, h8⟩ := m.val i d hv
  refine ⟨v, h7, e, d2, m, h3, fun v2 H' s r => ?_⟩
  cases d <;> first | (cases h5; done) | skip
  cases d2 <;> first | (cases h5; done) | skip
  cases h5
  cases h8
  cases r
  refine ⟨_, _, rfl, rfl, ?_⟩
  obtain ⟨m2, s2⟩ := (m.up s).putV (Rp.int _) i
  exact h6 _ H' m2 ((fz_up s).trans s2)
theorem stAug {a : Xp} {i : Nat} {n : Str} {py pos : Pos} {y : Expr} (g : GdS X C T W) (hs : slB T i n = true) (h : ck T .val a y = true) : PS X (.AugAssign (.Name n py) .Add y pos) (tS X.K G W (ex C (.aug i .Add a))) := by
  simp only [slB, Bool.and_eq_true, decide_eq_true_eq] at hs
  exact psImp (ps_aug (i := i) (by rw [g.g.N]; exact g.g.nd) (by rw [g.g.N]; exact hs.1) (locOf g.g hs.2) ((sX X C a).val (G := G) g.g h) ip_add (.inl (g.fn n))) fun D σ H q => augRead q
/-- a comprehension stored -/
theorem stLc {el : Xp} {t : Tg} {w : Wk} {cs : Xps} {own : List Nat} {i : Nat} {n : Str} {py pos : Pos} {y : Expr} (g : GdS X C T W) (hs : slB T i n = true) (h : ck T .val (.lc el t w cs own) y = true) :
    PS X (.Assign [.Name n py] y pos) (fun D σ H => tO X.K G (ev C (.lc el t w cs own)) σ H fun x H1 => D.nx (σ.set i (some x)) H1) := by
  obtain ⟨b, tg, it, ifs, scope, ps, rfl, h1, h2, h3, h4, h5, h6, h7⟩ := lcO (sX X C el) (sXw X C w) (sXs X C cs) g.g h
  have hs' := hs
  simp only [slB, Bool.and_eq_true, decide_eq_true_eq] at hs'
  refine psImp (stAsg (t := tLc (tW X.K G true (evw C w)) (eG X.K own (asg t)) (eQ X.K (evc C cs)) (eE X.K (ev C el)) ((own.map fun i => (T.N.getD i "", i)).map (·.2))) g hs (pe_lc g.g.calm (by rw [g.g.N]; exact g.g.nd) (h2 (G := G)) h1 h3 h4 h5 (noSetF h6 X.env)) (.inr ⟨_, _, _, _, rfl⟩) fun z =>
    ps_setLc g.g.calm (by rw [g.g.N]; exact g.g.nd) (by rw [g.g.N]; exact hs'.1) (swLocal z) z (h2 (G := G)) h1 h3 h4 h5 (noSetF h6 X.env)) fun D σ H q => ?_
  show tLc _ _ _ _ _ σ H fun x H1 => D.nx (σ.set i (some x)) H1
  rw [ownMap]
  exact lcRead h7 lcEv q
theorem stLc2 {el : Xp} {t t2 : Tg} {w w2 : Wk} {cs cs2 : Xps} {own own2 : List Nat} {i : Nat} {n : Str} {py pos : Pos} {y : Expr} (g : GdS X C T W) (hs : slB T i n = true) (h : ck T .val (.lc2 el t w cs t2 w2 cs2 own own2) y = true) :
    PS X (.Assign [.Name n py] y pos) (fun D σ H => tO X.K G (ev C (.lc2 el t w cs t2 w2 cs2 own own2)) σ H fun x H1 => D.nx (σ.set i (some x)) H1) := by
  obtain ⟨b, tg, it, ifs, tg1, it1, ifs1, scope, ps, rfl, h1, hsub, h2, h3, h4, k2, k3, k4, h5, h6, h6', h7, h8⟩ := lc2O (sX X C el) (sXw X C w) (sXs X C cs) (sXw X C w2) (sXs X C cs2) g.g h
  have hs' := hs
  simp only [slB, Bool.and_eq_true, decide_eq_true_eq] at hs'
  have hv : ∀ i ∈ own2, i ∈ (own.map fun i => (T.N.getD i "", i)).map (·.2) := fun i hi => by rw [ownMap]; exact hsub i hi
  refine psImp (stAsg (t := tLc2 (tW X.K G true (evw C w)) (eG X.K own (asg t)) (eQ X.K (evc C cs)) (eW X.K (evw C w2)) (eG X.K own2 (asg t2)) (eQ X.K (evc C cs2)) (eE X.K (ev C el)) ((own.map fun i => (T.N.getD i "", i)).map (·.2)) own2) g hs (pe_lc2 g.g.calm (by rw [g.g.N]; exact g.g.nd) (h2 (G := G)) h1 hv h3 h4 k2 k3 k4 h5 (noSetF h6 X.env) (fun env => noSetF h6' env)) (.inr ⟨_, _, _, _, rfl⟩) fun z =>
    ps_setLc2 g.g.calm (by rw [g.g.N]; exact g.g.nd) (by rw [g.g.N]; exact hs'.1) (swLocal z) z (h2 (G := G)) h1 hv h3 h4 k2 k3 k4 h5 (noSetF h6 X.env) (fun env => noSetF h6' env)) fun D σ H q => ?_
  show tLc2 _ _ _ _ _ _ _ _ _ σ H fun x H1 => D.nx (σ.set i (some x)) H1
  rw [ownMap]
  exact lc2Read h7 h8 (fun d e e' z => asg_own t z) hsub lc2Ev q
theorem stSet {a : Xp} {i : Nat} {n : Str} {py pos : Pos} {y : Expr} (g : GdS X C T W) (hs : slB T i n = true) (h : ck T .val a y = true) : PS X (.Assign [.Name n py] y pos) (tS X.K G W (ex C (.set i a))) := by
  rcases compOr h with hn | ⟨el, t, w, cs, own, rfl, b, gs, sc, ps, rfl⟩ | ⟨el, t, w, cs, t2, w2, cs2, own, own2, rfl⟩
  · exact psImp (stAsg g hs ((sX X C a).val (G := G) g.g h) (.inl hn) fun z => by
      have e : swapsWith y (some (.Name n py)) pos.line X.env = pure false := swNo hn _ _ _
      exact ps_set (i := i) (by rw [g.g.N]; exact g.g.nd) (by simp only [slB, Bool.and_eq_true, decide_eq_true_eq] at hs; rw [g.g.N]; exact hs.1) (by simp only [slB, Bool.and_eq_true, decide_eq_true_eq] at hs; exact locOf g.g hs.2) ((sX X C a).val (G := G) g.g h) e (.inl (g.fn n))) fun D σ H q => setRead q
  · exact psImp (stLc (G := G) g hs h) fun D σ H q => tO_tE lc_nd (setRead q)
  · exact psImp (stLc2 (G := G) g hs h) fun D σ H q => tO_tE lc2_nd (setRead q)
theorem prodO {a : Xp} {y : Expr} (g : Gd X C T) (hp : isProd a = true) (h : ck T .val a y = true) : PE X y (tO X.K G (ev C a)) := by
  cases a <;> first | (cases hp; done) | skip
  · exact lstO (sXs X C _) stars g h
  · rename_i f as
    cases f <;> first | (cases hp; done) | skip
    exact listO (sXs X C _) g h
  · exact dnewO g h
  · exact ddisO (sXs X C _) g h
  · exact lcPE (sX X C _) (sXw X C _) (sXs X C _) g h
theorem stSetO {a : Xp} {i : Nat} {n : Str} {py pos : Pos} {y : Expr} (g : GdS X C T W) (hs : slB T i n = true) (h : ck T .val a y = true) (hp : isProd a = true) : PS X (.Assign [.Name n py] y pos) (tS X.K G W (ex C (.setO i a))) := by
  rcases compOr h with hn | ⟨el, t, w, cs, own, rfl, b, gs, sc, ps, rfl⟩ | ⟨el, t, w, cs, t2, w2, cs2, own, own2, rfl⟩
  · exact psImp (stAsg g hs (prodO (G := G) g.g hp h) (.inl hn) fun z => by
      have e : swapsWith y (some (.Name n py)) pos.line X.env = pure false := swNo hn _ _ _
      exact ps_set (i := i) (by rw [g.g.N]; exact g.g.nd) (by simp only [slB, Bool.and_eq_true, decide_eq_true_eq] at hs; rw [g.g.N]; exact hs.1) (by simp only [slB, Bool.and_eq_true, decide_eq_true_eq] at hs; exact locOf g.g hs.2) (prodO (G := G) g.g hp h) e (.inl (g.fn n))) fun D σ H q => setORead q
  · exact psImp (stLc (G := G) g hs h) fun D σ H q => setORead q
  · cases hp
theorem sGs' {t : Tg} {x : Expr} {own : List Nat} (g : GdS X C T W) (h : ckg T own t x = true) : PG X x (gT X.K G own (asg t)) :=
  sG t (G := G) g.g.N g.g.nd g.g.calm (fun y hy => ⟨locOf g.g hy, .inl (g.fn y)⟩) h
theorem stUnp {t : Tg} {a : Xp} {tg y : Expr} {pos : Pos} (g : GdS X C T W) (h1 : isTup tg = true) (h2 : notTup y = true) (h3 : ckg T (List.range T.N.length) t tg = true) (h4 : ck T .val a y = true) : PS X (.Assign [tg] y pos) (tS X.K G W (ex C (.unp t a))) := by
  cases tg <;> first | (cases h1; done) | skip
  rename_i es k tp
  have hsw : swapsWithSole [.Tuple es k tp] y pos.line X.env = pure false := by
    show swapsWith y (some (.Tuple es k tp)) pos.line X.env = pure false
    cases y <;> rfl
  have hst : swappedStores [.Tuple es k tp] y X.env = pure none := by cases y <;> first | rfl | cases h2
  refine psImp (ps_asg ((sX X C a).val (G := G) g.g h4) (sGs' (G := G) g h3) hsw hst rfl) fun D σ H q => ?_
  obtain ⟨e, m, q⟩ := q
  obtain ⟨d, k1, k2⟩ := post_to (by simpa only [ex] using q)
  obtain ⟨e2, k3, k4⟩ := post_to k2
  exact ⟨e, d, m, k1, fun v H' s r => ⟨e, d, e2, m.up s, r, k3, fun σ' m' s' _ => k4 σ' H' m' ((fz_up s).trans s')⟩⟩
theorem pkName {i : Nat} {n : Str} {p : Pos} (g : Gd X C T) (h : nmB T i n = true) : PE X (.Name n p) (tVar i) := peVar g h
theorem ownAt {K : Fg} {e : Vn} {σ : Stt} {H : Hp} {i : Nat} {xs : List D} (m : Mt' K G e σ H) (h : gt e i = some (.o (.list xs))) : ∃ a vs, σ[i]? = some (some (.ref a)) ∧ H a = some (.lst vs) ∧ RpA K (Fz G e σ H) vs xs := by
  obtain ⟨a, h1, _, _, h4⟩ := m.own i _ h
  cases h4 with
  | lst q r => exact ⟨a, _, h1, q, r⟩
theorem stApp {i : Nat} {a : Xp} {n : Str} {p ap cp pos : Pos} {y : Expr} (g : GdS X C T W) (h1 : nmB T i n = true) (h2 : notStar y = true) (h3 : (ap.endLine == cp.line) = true) (h4 : ck T .val a y = true) :
    PS X (.Expr (.Call (.Attribute (.Name n p) "append" ap) [y] [] cp) pos) (tS X.K G W (ex C (.app i a))) := by
  refine psImp (ps_expr (pe_bm PySem.F.plainAttrs_list PySem.F.slot_list_append PySem.F.type_list_append mt_append (peVar g.g h1) (pa_cons ((sX X C a).val (G := G) g.g h4) pa_nil (star_cons h2)) rfl (by rw [star_cons h2]; rfl) h3 (star_cons h2) rfl)) fun D σ H q => ?_
  obtain ⟨e, m, q⟩ := q
  obtain ⟨d, k1, k2⟩ := post_to (by simpa only [ex] using q)
  obtain ⟨dl, k3, k4⟩ := post_to (by simpa only [chg] using k2)
  obtain ⟨d2, k5, k6⟩ := post_to k4
  cases dl <;> first | (cases k5; done) | skip
  rename_i xs
  simp only [appD] at k5
  split at k5
  · rename_i hz
    cases k5
    have k3' := gt_own k3
    obtain ⟨b, vs, z1, z2, z3⟩ := ownAt m k3'
    refine ⟨_, z1, .inl ⟨rfl, vs, .inl (.inl z2)⟩, e, d, m, k1, fun v H' s r => ?_⟩
    have m' := m.up s
    have z3' := z3.up (fz_up s)
    refine ⟨b, vs, v, rfl, rfl, s.is z2 ntL, by rw [sl16, z3.len]; exact hz, ?_⟩
    obtain ⟨m2, s2⟩ := m'.mut (o := .lst (vs ++ [v])) (d' := .list (xs ++ [d])) k3' z1 (.lst upd_same (z3'.app (.cons r .nil)))
    exact k6 σ _ m2 ((fz_up s).trans s2)
  · cases k5
theorem stExt {i : Nat} {a : Xp} {n : Str} {p ap cp pos : Pos} {y : Expr} (g : GdS X C T W) (h1 : nmB T i n = true) (h2 : notStar y = true) (h3 : (ap.endLine == cp.line) = true) (h4 : ck T .val a y = true) :
    PS X (.Expr (.Call (.Attribute (.Name n p) "extend" ap) [y] [] cp) pos) (tS X.K G W (ex C (.ext i a))) := by
  refine psImp (ps_expr (pe_bm PySem.F.plainAttrs_list PySem.F.slot_list_extend PySem.F.type_list_extend mt_extA (peVar g.g h1) (pa_cons ((sX X C a).val (G := G) g.g h4) pa_nil (star_cons h2)) rfl (by rw [star_cons h2]; rfl) h3 (star_cons h2) rfl)) fun D σ H q => ?_
  obtain ⟨e, m, q⟩ := q
  obtain ⟨d, k1, k2⟩ := post_to (by simpa only [ex] using q)
  obtain ⟨dl, k3, k4⟩ := post_to (by simpa only [chg] using k2)
  obtain ⟨d2, k5, k6⟩ := post_to k4
  cases dl <;> first | (cases k5; done) | skip
  rename_i xs
  cases d <;> first | (cases k5; done) | skip
  rename_i ys
  simp only [extD] at k5
  split at k5
  · rename_i hz
    cases k5
    have k3' := gt_own k3
    obtain ⟨b, vs, z1, z2, z3⟩ := ownAt m k3'
    refine ⟨_, z1, .inl ⟨rfl, vs, .inl (.inl z2)⟩, e, _, m, k1, fun v H' s r => ?_⟩
    have m' := m.up s
    have z3' := z3.up (fz_up s)
    obtain ⟨b2, ws, rfl, z4, z5⟩ := Rb.list m' (.inl r)
    refine ⟨b, b2, vs, ws, rfl, rfl, s.is z2 ntL, z4, by rw [sl16, z3.len, z5.len]; exact hz, ?_⟩
    obtain ⟨m2, s2⟩ := m'.mut (o := .lst (vs ++ ws)) (d' := .list (xs ++ ys)) k3' z1 (.lst upd_same (z3'.app z5))
    exact k6 σ _ m2 ((fz_up s).trans s2)
  · cases k5
theorem noSl {z : Expr} (h : notSlice z = true) {o : Expr} {p : Pos} {env : Env} (v : Value) : assign (.Subscript o z p) env v = (do
      let ov ← holding [v] (eval o env)
      let iv ← holding [v, ov] (eval z env)
      standAt p
      holding [v, ov, iv] (setItem ov iv v)
      release [v, ov, iv] []) := by
  cases z <;> first | rfl | cases h
theorem stPuti {i : Nat} {k a : Xp} {n : Str} {p tp pos : Pos} {y z : Expr} (g : GdS X C T W) (h1 : nmB T i n = true) (h2 : notSlice z = true) (h3 : ck T .lent k z = true) (h4 : ck T .val a y = true) :
    PS X (.Assign [.Subscript (.Name n p) z tp] y pos) (tS X.K G W (ex C (.puti i k a))) := by
  have hsw : swapsWithSole [.Subscript (.Name n p) z tp] y pos.line X.env = pure false := by
    show swapsWith y (some (.Subscript (.Name n p) z tp)) pos.line X.env = pure false
    cases y <;> rfl
  have hst : swappedStores [.Subscript (.Name n p) z tp] y X.env = pure none := by cases y <;> rfl
  refine psImp (ps_asg ((sX X C a).val (G := G) g.g h4) (pg_sub (peVar g.g h1) ((sX X C k).lent (G := G) g.g h3) set_list fun v => noSl h2 v) hsw hst rfl) fun D σ H q => ?_
  obtain ⟨e, m, q⟩ := q
  obtain ⟨d, k1, k2⟩ := post_to (by simpa only [ex] using q)
  obtain ⟨dk, k7, k8⟩ := post_to k2
  obtain ⟨dl, k3, k4⟩ := post_to (by simpa only [chg] using k8)
  obtain ⟨d2, k5, k6⟩ := post_to k4
  cases dl <;> first | (cases k5; done) | skip
  rename_i xs
  cases dk <;> first | (cases k5; done) | skip
  rename_i j
  have k3' := gt_own k3
  obtain ⟨b, vs, z1, z2, z3⟩ := ownAt m k3'
  have key : ∃ c, ixN xs.length j = some c ∧ d2 = .list (xs.set c d) := by
    simp only [putD] at k5
    unfold ixN
    split at k5
    · rename_i h0
      split at k5
      · rename_i h5
        cases k5
        exact ⟨j.toNat, by rw [if_pos h0, if_pos h5], rfl⟩
      · cases k5
    · rename_i h0
      split at k5
      · rename_i h5
        cases k5
        exact ⟨(j + xs.length).toNat, by rw [if_neg h0, if_pos (by omega)], rfl⟩
      · cases k5
  obtain ⟨c, c1, rfl⟩ := key
  refine ⟨e, d, m, k1, fun v H' s r => ⟨_, z1, e, _, m.up s, k7, fun w H2 s2 r2 => ?_⟩⟩
  have m2 := m.up (s.trans s2)
  have z3' := z3.up (fz_up (s.trans s2))
  refine ⟨b, vs, j, c, rfl, r2.int m2, s2.is (s.is z2 ntL) ntL, by rw [z3.len]; exact c1, ?_⟩
  obtain ⟨m3, s3⟩ := m2.mut (o := .lst (vs.set c v)) (d' := .list (xs.set c d)) k3' z1 (.lst upd_same (z3'.set c (r.up (fz_up s2))))
  exact k6 σ _ m3 ((fz_up (s.trans s2)).trans s3)
theorem ownD {K : Fg} {e : Vn} {σ : Stt} {H : Hp} {i : Nat} {ps : List (D × D)} (m : Mt' K G e σ H) (h : gt e i = some (.o (.dict ps))) : ∃ a, σ[i]? = some (some (.ref a)) ∧ ((∃ kvs, H a = some (.dK kvs) ∧ RpK K (Fz G e σ H) kvs ps) ∨ ∃ kvs qs, ps = tagD :: qs ∧ H a = some (.dT kvs) ∧ RpT K (Fz G e σ H) kvs qs) := by
  obtain ⟨a, h1, _, _, h2⟩ := m.own i _ h
  refine ⟨a, h1, ?_⟩
  cases h2 with
  | dK hh q => exact .inl ⟨_, hh, q⟩
  | dT hh q => exact .inr ⟨_, _, rfl, hh, q⟩
theorem dputD_tag (nw : Bool) (k v : D) (ps : List (D × D)) : dputD nw k v (.dict (tagD :: ps)) = if isKT k && (nw || (dLook ps k).isSome) && decide (ps.length < 16777216) then .ok (.dict (tagD :: dSet ps k v)) else .st := rfl
theorem dputD_key {K : Fg} {F : Hp} {kvs : List (Key × V)} {ps : List (D × D)} (h : RpK K F kvs ps) (nw : Bool) (k v : D) : dputD nw k v (.dict ps) = if isK k && decide (ps.length < 16777216) then .ok (.dict (dSet ps k v)) else .st := by
  cases h with
  | nil => rfl
  | cons r rs =>
    rename_i q _ _ _ _
    cases q <;> rfl
/-- what a put makes of the heap and of the frame -/
theorem dputRead {K : Fg} {e : Vn} {σ : Stt} {H : Hp} {i : Nat} {a : Addr} {dl dk dv d2 : D} {y v : V} {nw : Bool} (m : Mt' K G e σ H) (hi : gt e i = some (.o dl)) (ha : σ[i]? = some (some (.ref a))) (ry : Rb K G e σ H y dk) (rv : Rp K (Fz G e σ H) v dv)
    (hy : nw = true → ∃ b vs xs, y = .ref b ∧ H b = some (.tup vs) ∧ dk = .tuple xs ∧ RpA K (Fz G e σ H) vs xs) (h : dputD nw dk dv dl = .ok d2) : ∃ H', DPutS K H a y v H' ∧ Mt' K G (pt e i (some (.o d2))) σ H' ∧ Same (Fz G e σ H) (Fz G (pt e i (some (.o d2))) σ H') := by
  cases dl <;> first | (cases h; done) | skip
  rename_i ps
  obtain ⟨a', h1, h2⟩ := ownD m hi
  rw [ha] at h1
  cases h1
  rcases h2 with ⟨kvs, k1, k2⟩ | ⟨kvs, qs, rfl, k1, k2⟩
  · rw [dputD_key k2] at h
    split at h
    · rename_i hz
      cases h
      simp only [Bool.and_eq_true, decide_eq_true_eq] at hz
      obtain ⟨k, rfl⟩ := isK_key hz.1
      have e1 := rp_key (ry.now m (by cases k <;> rfl))
      have hl : kvs.length < sizeLine := by rw [rpK_len k2, sl16]; exact hz.2
      refine ⟨_, .inl (.inl ⟨kvs, k, k1, e1, hl, rfl⟩), ?_⟩
      exact m.mut hi ha (.dK upd_same (set_k k rv k2))
    · cases h
  · rw [dputD_tag] at h
    split at h
    · rename_i hz
      cases h
      simp only [Bool.and_eq_true, decide_eq_true_eq] at hz
      obtain ⟨⟨hk, hn⟩, hl⟩ := hz
      obtain ⟨k, rfl⟩ := isKT_key hk
      have hl : kvs.length < sizeLine := by rw [rpT_len k2, sl16]; exact hl
      refine ⟨upd H a (.dT (putK kvs k v)), ?_, m.mut hi ha (.dT upd_same (set_t k rv k2))⟩
      cases nw with
      | true =>
        obtain ⟨b, vs, xs, rfl, h5, e2, h6⟩ := hy rfl
        cases e2
        have e1 := rpA_keys h6
        subst e1
        exact .inl (.inr ⟨kvs, k, b, k1, rfl, h5, hl, rfl⟩)
      | false =>
        obtain ⟨b, vs, rfl, h3, h4⟩ := ry.tup m
        have e1 := rpA_keys h4
        subst e1
        refine .inr ⟨kvs, k, b, k1, rfl, h3, ?_, hl, rfl⟩
        simp only [Bool.false_or] at hn
        cases hd : dLook qs (.tuple (k.map kD)) with
        | none => rw [hd] at hn; cases hn
        | some d1 =>
          obtain ⟨w, hw, _⟩ := (look_t k k2).1 d1 hd
          rw [hw]; rfl
    · cases h
theorem stDput {i : Nat} {k a : Xp} {n : Str} {p tp pos : Pos} {y z : Expr} (g : GdS X C T W) (h1 : nmB T i n = true) (h2 : notSlice z = true) (h3 : ck T .lent k z = true) (h4 : ck T .val a y = true) :
    PS X (.Assign [.Subscript (.Name n p) z tp] y pos) (tS X.K G W (ex C (.dput i k a))) := by
  have hsw : swapsWithSole [.Subscript (.Name n p) z tp] y pos.line X.env = pure false := by
    show swapsWith y (some (.Subscript (.Name n p) z tp)) pos.line X.env = pure false
    cases y <;> rfl
  have hst : swappedStores [.Subscript (.Name n p) z tp] y X.env = pure none := by cases y <;> rfl
  refine psImp (ps_asg ((sX X C a).val (G := G) g.g h4) (pg_sub (peVar g.g h1) ((sX X C k).lent (G := G) g.g h3) (set_dict (by have := g.g.un; omega)) fun v => noSl h2 v) hsw hst rfl) fun D σ H q => ?_
  obtain ⟨e, m, q⟩ := q
  obtain ⟨d, k1, k2⟩ := post_to (by simpa only [ex] using q)
  obtain ⟨dk, k7, k8⟩ := post_to k2
  obtain ⟨dl, k3, k4⟩ := post_to (by simpa only [chg] using k8)
  obtain ⟨d2, k5, k6⟩ := post_to k4
  have k3' := gt_own k3
  obtain ⟨b, z1, _, _, _⟩ := m.own i _ k3'
  refine ⟨e, d, m, k1, fun v H1 s r => ⟨_, z1, e, _, m.up s, k7, fun w H2 s2 r2 => ?_⟩⟩
  have m2 := m.up (s.trans s2)
  obtain ⟨H3, j1, j2, j3⟩ := dputRead (nw := false) m2 k3' z1 r2 (r.up (fz_up s2)) (fun z => Bool.noConfusion z) k5
  exact ⟨b, H3, rfl, j1, k6 σ H3 j2 ((fz_up (s.trans s2)).trans j3)⟩
theorem stDputT {i : Nat} {ks : Xps} {a : Xp} {n : Str} {p tp pos kp : Pos} {kk : Nat} {y : Expr} {zs : List Expr} (g : GdS X C T W) (h1 : nmB T i n = true) (h2 : zs.length ≤ 1000) (h3 : ckl T .val ks zs = true) (h4 : ck T .val a y = true) :
    PS X (.Assign [.Subscript (.Name n p) (.Tuple zs kk kp) tp] y pos) (tS X.K G W (ex C (.dputT i ks a))) := by
  have hsw : swapsWithSole [.Subscript (.Name n p) (.Tuple zs kk kp) tp] y pos.line X.env = pure false := by
    show swapsWith y (some (.Subscript (.Name n p) (.Tuple zs kk kp) tp)) pos.line X.env = pure false
    cases y <;> rfl
  have hst : swappedStores [.Subscript (.Name n p) (.Tuple zs kk kp) tp] y X.env = pure none := by cases y <;> rfl
  refine psImp (ps_asg ((sX X C a).val (G := G) g.g h4) (pg_sub (peVar g.g h1) (pe_tup ((sXs X C ks).val (G := G) g.g h3 (stars h3))) (set_dict (by have := g.g.un; omega)) fun v => noSl rfl v) hsw hst rfl) fun D σ H q => ?_
  obtain ⟨e, m, q⟩ := q
  obtain ⟨d, k1, k2⟩ := post_to (by simpa only [ex] using q)
  obtain ⟨ds, k7, k8⟩ := post_to k2
  obtain ⟨dl, k3, k4⟩ := post_to (by simpa only [chg] using k8)
  obtain ⟨d2, k5, k6⟩ := post_to k4
  have k3' := gt_own k3
  obtain ⟨b, z1, _, _, _⟩ := m.own i _ k3'
  refine ⟨e, d, m, k1, fun v H1 s r => ⟨_, z1, e, ds, m.up s, k7, fun ws H2 s2 r2 => ⟨?_, fun pp hp => ?_⟩⟩⟩
  · rw [sl16, r2.len, evs_len h3 k7]
    omega
  · have m2 := m.up (s.trans s2)
    have s3 : Same H2 (upd H2 pp (.tup ws)) := same_new hp
    have m3 := m2.up s3
    obtain ⟨H3, j1, j2, j3⟩ := dputRead m3 k3' z1 (.inl (new_tup m2 hp r2)) (r.up ((fz_up s2).trans (fz_up s3))) (fun _ => ⟨pp, ws, ds, rfl, upd_same, rfl, r2.up (fz_up s3)⟩) k5
    exact ⟨b, H3, rfl, j1, k6 σ H3 j2 ((fz_up ((s.trans s2).trans s3)).trans j3)⟩
theorem stRet {a : Xp} {y : Expr} {pos : Pos} (g : GdS X C T W) (h : ck T .val a y = true) : PS X (.Return (some y) pos) (tS X.K G W (ex C (.ret a))) := by
  refine psImp (ps_ret ((sX X C a).val (G := G) g.g h)) fun D σ H q => ?_
  obtain ⟨e, m, q⟩ := q
  obtain ⟨d, h1, h2⟩ := post_to (by simpa only [ex] using q)
  exact ⟨e, d, m, h1, fun v H' s r => h2 v H' (m.ext.trans s) (r.up (cutH_same (fun b h => .inl (.inl h)) (Same.refl _)))⟩
theorem stRetn {pos : Pos} : PS X (.Return none pos) (tS X.K G W (ex C .retn)) := by
  refine psImp ps_retN fun D σ H q => ?_
  obtain ⟨e, m, q⟩ := q
  exact q _ H m.ext .non

/-! ### blocks and loops -/
structure PSm (C : Cn) (s : Sm) : Prop where
  st : ∀ {X : Cx} {T : Tb} {G : Gh} {W : WX} {x : Stmt}, GdS X C T W → ckS T s x = true → PS X x (tS X.K G W (ex C s))
structure PSms (C : Cn) (s : Sms) : Prop where
  st : ∀ {X : Cx} {T : Tb} {G : Gh} {W : WX} {xs : List Stmt}, GdS X C T W → ckSs T s xs = true → PSs X xs (tS X.K G W (exs C s))
theorem stIf {c : Xp} {a b : Sms} {t : Expr} {ys zs : List Stmt} {pos : Pos} (g : GdS X C T W) (h : ck T .test c t = true) (ha : PSs X ys (tS X.K G W (exs C a))) (hb : PSs X zs (tS X.K G W (exs C b))) : PS X (.If t ys zs pos) (tS X.K G W (ex C (.ifs c a b))) := by
  refine psImp (ps_if ((sX X C c).test (G := G) g.g h) ha hb) fun D σ H q => ?_
  obtain ⟨e, m, q⟩ := q
  obtain ⟨k, h1, h2⟩ := post_to (by simpa only [ex] using q)
  refine ⟨e, k, m, h1, fun H' s => ?_⟩
  cases k with
  | true => exact ⟨e, m.up s, h2.up (fz_up s)⟩
  | false => exact ⟨e, m.up s, h2.up (fz_up s)⟩
/-- what is wanted of a turn, from what is wanted of the whole -/
theorem turnPost {K : Fg} {W : WX} {D : Ends} {F F1 : Hp} {o : Ot} {kl : List Nat} {f : Vn → Ot} {N : Stt → Hp → Prop} (h : Post K G W D F (o.turn kl f)) (s : Same F F1)
    (hN : ∀ e' σ' H', Mt' K G e' σ' H' → Same F1 (Fz G e' σ' H') → Post K G W D F (f (kil kl e')) → N σ' H') : Post K G W { D with nx := N, ct := N, bk := D.nx } F1 o := by
  cases o with
  | nx e' => exact fun σ' H' m t => hN e' σ' H' m t h
  | ct e' => exact fun σ' H' m t => hN e' σ' H' m t h
  | bk e' => exact fun σ' H' m t => h σ' H' m (s.trans t)
  | rt d => exact h
  | er c xs e' => exact fun σ' H' m t cls d x => h σ' H' m (s.trans t) cls d x
  | st => exact h.elim
theorem stFor {t : Tg} {w : Wk} {body : Sms} {kl : List Nat} {tg it : Expr} {ys : List Stmt} {pos : Pos} (g : GdS X C T W) (h1 : ckw T .val tg w it = true) (h2 : notSet it = true) (h3 : ckg T (List.range T.N.length) t tg = true)
    (hb : ∀ G, PSs X ys (tS X.K G W (exs C body))) : PS X (.For tg it ys [] pos) (tS X.K G W (ex C (.fors t w body kl))) := by
  have hw := (sXw X C w).walk (G := G) g.g h1 (fun z => nomatch z)
  refine psImp (ps_for g.pass g.g.calm hw (sGs' (G := G) g h3) (hb G) (noSetF h2 X.env)) fun D σ H q => ?_
  obtain ⟨e, m, q⟩ := q
  obtain ⟨xs, k1, k2⟩ := post_to (by simpa only [ex] using q)
  refine ⟨e, xs, m, k1, fun J H1 s1 wk => ?_⟩
  have wk' : Wlk X.K (Fz G e σ H1) (Fz G e σ H1) J xs := wk
  have m1 := m.up s1
  refine ⟨fun i k σ' H' => k = xs.length - i ∧ i ≤ xs.length ∧ ∃ ei, Mt' X.K G ei σ' H' ∧ Same (Fz G e σ H1) (Fz G ei σ' H') ∧ Post X.K G W D (Fz G e σ H) (forR t kl (exs C body) (xs.drop i) ei),
    ⟨xs.length, rfl, Nat.zero_le _, kil kl e, m1.kill kl, fz_kill kl e, k2⟩, ?_⟩
  rintro i k σ' H' ⟨rfl, hi, ei, mi, si, pi⟩
  have sB : Same (Fz G e σ H1) H' := si.trans cutH_sub
  by_cases hlt : i < xs.length
  · refine .inr ⟨wk'.goes i H' hlt sB, fun σ2 H2 => ∃ e2, Mt' X.K G e2 σ2 H2 ∧ Same (Fz G e σ H1) (Fz G e2 σ2 H2) ∧ Post X.K G W D (Fz G e σ H) (forR t kl (exs C body) (xs.drop (i + 1)) e2), fun σ2 H2 z => ⟨xs.length - (i + 1), by omega, rfl, hlt, z⟩, fun x H2 y => ?_⟩
    obtain ⟨s2, d, hd, hr⟩ := wk'.yields i H' x H2 hlt sB y
    have e1 : xs.drop i = d :: xs.drop (i + 1) := by
      rw [List.drop_eq_getElem_cons hlt]
      rw [List.getElem?_eq_getElem hlt] at hd
      cases hd
      rfl
    rw [e1] at pi
    obtain ⟨e2, k3, k4⟩ := post_to (by simpa only [forR] using pi)
    have hx : Rp X.K (Fz G ei σ' H2) x d := hr _ (fun b z => z.elim (mi.ban b) fun z => mi.ownThere z) si
    refine ⟨ei, d, e2, mi.up s2, hx, k3, fun σ3 m3 f3 _ => ⟨e2, m3, ?_⟩⟩
    have sAll : Same (Fz G e σ H1) (Fz G e2 σ3 H2) := (si.trans (fz_up s2)).trans f3
    exact turnPost k4 ((fz_up s1).trans sAll) fun e4 σ4 H4 m4 t4 p4 => ⟨kil kl e4, m4.kill kl, (sAll.trans t4).trans (fz_kill kl e4), p4⟩
  · have e1 : i = xs.length := by omega
    subst e1
    rw [List.drop_length] at pi
    exact .inl ⟨wk'.stops H' sB, pi σ' H' mi ((fz_up s1).trans si)⟩
theorem stWhl {n : Nat} {c : Xp} {body : Sms} {kl : List Nat} {t : Expr} {ys : List Stmt} {pos : Pos} (g : GdS X C T W) (h : ck T .test c t = true) (hb : PSs X ys (tS X.K G W (exs C body))) : PS X (.While t ys [] pos) (tS X.K G W (ex C (.whl n c body kl))) := by
  refine psImp (ps_while g.pass ((sX X C c).test (G := G) g.g h) hb) fun D σ H q => ?_
  obtain ⟨e, m, q⟩ := q
  refine ⟨fun k σ' H' => ∃ ei, Mt' X.K G ei σ' H' ∧ Same (Fz G e σ H) (Fz G ei σ' H') ∧ Post X.K G W D (Fz G e σ H) (whlR kl (fun e => (ev C c e).bind tru) (exs C body) k ei), ⟨n, kil kl e, m.kill kl, fz_kill kl e, by simpa only [ex] using q⟩, ?_⟩
  rintro k σ' H' ⟨ei, mi, si, pi⟩
  cases k with
  | zero => exact pi.elim
  | succ k =>
    obtain ⟨b, k1, k2⟩ := post_to (by simpa only [whlR] using pi)
    refine ⟨ei, b, mi, k1, fun H2 s2 => ?_⟩
    cases b with
    | false =>
      simp only [Bool.false_eq_true, if_false] at k2 ⊢
      exact k2 σ' H2 (mi.up s2) (si.trans (fz_up s2))
    | true =>
      simp only [if_true] at k2 ⊢
      refine ⟨fun σ3 H3 => ∃ e3, Mt' X.K G e3 σ3 H3 ∧ Same (Fz G e σ H) (Fz G e3 σ3 H3) ∧ Post X.K G W D (Fz G e σ H) (whlR kl (fun e => (ev C c e).bind tru) (exs C body) k e3), fun σ3 H3 z => ⟨k, Nat.lt_succ_self k, z⟩, ei, mi.up s2, ?_⟩
      exact turnPost k2 (si.trans (fz_up s2)) fun e4 σ4 H4 m4 t4 p4 => ⟨kil kl e4, m4.kill kl, ((si.trans (fz_up s2)).trans t4).trans (fz_kill kl e4), p4⟩
/-! ### raising -/
theorem pssEx {α : Type} {x : List Stmt} {t : α → TS} (h : ∀ a, PSs X x (t a)) : PSs X x (fun D σ H => ∃ a, t a D σ H) := ⟨fun pins s σ H D I q => by
  obtain ⟨a, q⟩ := q
  exact (h a).run pins s σ H D I q⟩
theorem postX {K : Fg} {D : Ends} {e : Vn} {σ : Stt} {H : Hp} {r : Rs PyData} {f : PyData → Ot} {Q : VK} (m : Mt' K G e σ H) (h : Post K G W D (Fz G e σ H) (r.toX e f)) (ok : ∀ d, r = .ok d → Post K G W D (Fz G e σ H) (f d) → ∀ v H', Same H H' → Rp K (Fz G e σ H') v d → Q v H') : EndX K G W e σ H Q r := by
  cases r with
  | ok d => exact ok d rfl h
  | er c xs => exact fun cls d H' s x => h σ H' (m.up s) (fz_up s) cls d x
  | st => exact h
theorem stSetX {r : Xr} {i : Nat} {n : Str} {py pos : Pos} {y : Expr} (g : GdS X C T W) (hs : slB T i n = true) (hn : notComp y = true) (h : ckR T r y = true) : PS X (.Assign [.Name n py] y pos) (tS X.K G W (ex C (.setX i r))) := by
  simp only [slB, Bool.and_eq_true, decide_eq_true_eq] at hs
  refine psImp (ps_set (i := i) (by rw [g.g.N]; exact g.g.nd) (by rw [g.g.N]; exact hs.1) (locOf g.g hs.2) (peR (G := G) g.g g.fx g.tk r h) (swNo hn _ _ _) (.inl (g.fn n))) fun D σ H q => ?_
  obtain ⟨e, m, q⟩ := q
  refine ⟨e, m, postX (f := fun x => .nx (pt e i (some (.v x)))) m (by simpa only [ex] using q) fun d _ q v H' s r => ?_⟩
  obtain ⟨m2, s2⟩ := (m.up s).putV r i
  exact q _ H' m2 ((fz_up s).trans s2)
theorem stRetX {r : Xr} {pos : Pos} {y : Expr} (g : GdS X C T W) (h : ckR T r y = true) : PS X (.Return (some y) pos) (tS X.K G W (ex C (.retX r))) := by
  refine psImp (ps_ret (peR (G := G) g.g g.fx g.tk r h)) fun D σ H q => ?_
  obtain ⟨e, m, q⟩ := q
  exact ⟨e, m, postX (f := .rt) m (by simpa only [ex] using q) fun d _ q v H' s r => q v H' (m.ext.trans s) (r.up (cutH_same (fun b h => .inl (.inl h)) (Same.refl _)))⟩
theorem stExX {r : Xr} {pos : Pos} {y : Expr} (g : GdS X C T W) (hn : notComp y = true) (h : ckR T r y = true) : PS X (.Expr y pos) (tS X.K G W (ex C (.exX r))) := by
  refine psImp (ps_expr (peR (G := G) g.g g.fx g.tk r h) (swNo hn _ _ _)) fun D σ H q => ?_
  obtain ⟨e, m, q⟩ := q
  exact ⟨e, m, postX (f := fun _ => .nx e) m (by simpa only [ex] using q) fun d _ q v H' s r => q σ H' (m.up s) (fz_up s)⟩
theorem stUnpX {t : Tg} {r : Xr} {tg y : Expr} {pos : Pos} (g : GdS X C T W) (h1 : isTup tg = true) (h2 : notTup y = true) (h3 : ckg T (List.range T.N.length) t tg = true) (h4 : ckR T r y = true) : PS X (.Assign [tg] y pos) (tS X.K G W (ex C (.unpX t r))) := by
  cases tg <;> first | (cases h1; done) | skip
  rename_i es k tp
  have hsw : swapsWithSole [.Tuple es k tp] y pos.line X.env = pure false := by
    show swapsWith y (some (.Tuple es k tp)) pos.line X.env = pure false
    cases y <;> rfl
  have hst : swappedStores [.Tuple es k tp] y X.env = pure none := by cases y <;> first | rfl | cases h2
  refine psImp (ps_asg (peR (G := G) g.g g.fx g.tk r h4) (sGs' (G := G) g h3) hsw hst rfl) fun D σ H q => ?_
  obtain ⟨e, m, q⟩ := q
  refine ⟨e, m, postX (f := fun x => (asg t x e).to e .nx) m (by simpa only [ex] using q) fun d _ q v H' s r => ?_⟩
  obtain ⟨e2, k3, k4⟩ := post_to q
  exact ⟨e, d, e2, m.up s, r, k3, fun σ' m' s' _ => k4 σ' H' m' ((fz_up s).trans s')⟩
theorem flat0_any {K : Fg} {F : Hp} {v : V} {d : D} (h : flat0 d = true) (r : Rp K F v d) (F' : Hp) : Rp K F' v d := by
  cases r <;> first | (cases h; done) | constructor
theorem zip_look {K : Fg} {F : Hp} {f : Str} {x : D} : ∀ {fs : List Str} {vs : List V} {ds : List D}, RpA K F vs ds → (fs.zip ds).lookup f = some x → ∃ v, (fs.zip vs).lookup f = some v ∧ Rp K F v x ∧ x ∈ ds
  | [], _, _, _, h => by simp at h
  | _ :: _, _, _, .nil, h => by simp at h
  | y :: ys, _, _, .cons r rs, h => by
    rw [List.zip_cons_cons] at h ⊢
    simp only [List.lookup] at h ⊢
    cases e : f == y with
    | true =>
      rw [e] at h
      cases h
      exact ⟨_, rfl, r, List.mem_cons_self⟩
    | false =>
      rw [e] at h
      obtain ⟨v, h1, h2, h3⟩ := zip_look rs h
      exact ⟨v, h1, h2, List.mem_cons_of_mem _ h3⟩
theorem stRai {c : Str} {fs : List Str} {as : Xps} {n : Str} {y : Expr} {ys : List Expr} {p p2 pos : Pos} (g : GdS X C T W) (h1 : n = c) (h2 : glB T.sc n = true) (h3 : (c, fs) ∈ T.xcs) (h3l : fs.length ≤ 100) (h4 : ckl T .val as (y :: ys) = true) (h5 : (y :: ys).all notStar = true) :
    PS X (.Raise (some (.Call (.Name n p) (y :: ys) [] p2)) none pos) (tS X.K G W (ex C (.rai c fs as))) := by
  subst h1
  have h5' : notStar y = true ∧ ys.all notStar = true := by simpa only [List.all_cons, Bool.and_eq_true] using h5
  obtain ⟨k, Ca, fI, fd, m1, m2, m3, m4, m5, m6, m7, m8, m9, m10⟩ := (g.xc n fs h3).ex
  refine psImp (ps_raise g.g.calm g.tk (pmk_oex (dvs := []) (ds := []) m3 m6 m7 m8 m9 m10 .nil (fun pins σ H s e s' I c => by
    obtain ⟨_, _, _, _, _, _, _, _, _, _, _, _, z⟩ := c
    exact z.elim) (glOf g.g h2).1 m1 ((sXs X C as).val (G := G) g.g h4 h5) (glOf g.g h2).2 (star_cons h5'.1) (star_all h5'.2))) fun D σ H q => ?_
  obtain ⟨e, m, q⟩ := q
  obtain ⟨ds, k1, k2⟩ := post_to (by simpa only [ex] using q)
  split at k2
  · rename_i hc
    refine ⟨e, ds, m, k1, fun vs H1 s1 r1 => ⟨?_, fun a ha => ?_⟩⟩
    · rw [r1.len, ← hc.1]
      omega
    · rw [List.append_nil]
      refine ⟨a, vs, rfl, by rw [r1.len, hc.1], upd_same, fun d fs' hd hda hl => ⟨rfl, d, fs', upd_same, by rw [upd_ne hda]; exact upd_same, by rw [upd_ne hda] at hd; exact hd, ?_⟩⟩
      rw [upd_ne hda] at hd
      have eH : upd (del (upd (upd (upd H1 a (exo a Ca none)) d (exd d fs')) a (exo a Ca (some d))) a) d (.xd fs') = upd H1 d (.xd fs') := by
        funext b
        by_cases hb : b = d
        · rw [hb, upd_same, upd_same]
        · rw [upd_ne hb, upd_ne hb]
          by_cases hb2 : b = a
          · rw [hb2, del_same, ha]
          · rw [del_ne hb2, upd_ne hb2, upd_ne hb, upd_ne hb2]
      rw [eH]
      have s2 : Same H1 (upd H1 d (.xd fs')) := same_new hd
      refine k2 σ _ (m.up (s1.trans s2)) (fz_up (s1.trans s2)) _ _ ⟨Ca, d, fs', m2, rfl, rfl, upd_same, fun f x hx => ?_⟩
      obtain ⟨v, q1, q2, q3⟩ := zip_look r1 hx
      exact ⟨v, by rw [hl]; exact q1, flat0_any (List.all_eq_true.mp hc.2 _ q3) q2⟩
  · exact k2.elim
/-- a slot of which nothing is told -/
theorem Mt'.anyAt {K : Fg} {e : Vn} {σ : Stt} {H : Hp} {i : Nat} (m : Mt' K G e σ H) (h : gt e i = none) (x : Option V) : Mt' K G e (σ.set i x) H ∧ Same (Fz G e σ H) (Fz G e (σ.set i x) H) := by
  have at_ : ∀ {j : Nat} {s : Sl}, gt e j = some s → (σ.set i x)[j]? = σ[j]? := fun {j s} q => by
    rw [List.getElem?_set_ne]
    intro z
    rw [z] at h
    rw [h] at q
    cases q
  have hO : ∀ b, Own e (σ.set i x) b ↔ Own e σ b := fun b => ⟨fun ⟨j, d, q1, q2⟩ => ⟨j, d, q1, by rw [← at_ q1]; exact q2⟩, fun ⟨j, d, q1, q2⟩ => ⟨j, d, q1, by rw [at_ q1]; exact q2⟩⟩
  have hs : Same (Fz G e σ H) (Fz G e (σ.set i x) H) := cutH_same (fun b z => .inl (z.imp id (hO b).mp)) (Same.refl H)
  refine ⟨⟨by rw [List.length_set]; exact m.len, m.ext, m.ban, fun j d q => ?_, fun j d q => ?_, fun j k a d d' q1 q2 q3 q4 => ?_, m.tab⟩, hs⟩
  · obtain ⟨v, q1, q2⟩ := m.val j d q
    exact ⟨v, by rw [at_ q]; exact q1, q2.up hs⟩
  · obtain ⟨a, q1, q2, q3, q4⟩ := m.own j d q
    exact ⟨a, by rw [at_ q]; exact q1, q2, q3, q4.up (fun _ z => .inl z) hs⟩
  · rw [at_ q1] at q3
    rw [at_ q2] at q4
    exact m.inj j k a d d' q1 q2 q3 q4
theorem gt_pt_none (e : Vn) (i : Nat) : gt (pt e i none) i = none := by
  by_cases h : i < e.length
  · exact gt_pt_same _ _ _ h
  · rw [gt_get, pt_set, List.set_eq_of_length_le (by omega), List.getElem?_eq_none (by omega)]
    rfl
theorem Gd.tr (g : Gd X C T) (pn : List (Addr × Obj)) (xe : Value → Shared → Prop) : Gd (X.tr pn xe) C T where
  N := g.N
  sc := g.sc
  nd := g.nd
  calm := g.calm
  bl := g.bl
  gl := g.gl
  fn := fun j f n h => ⟨(g.fn j f n h).ex⟩
  ns := g.ns
  un := g.un
  dp := g.dp
  cd := g.cd
/-- an except clause's suite -/
def tHs (K : Fg) (G : Gh) (c : Str) (i : Nat) (h : Hs) (a : Addr) (cls : Value) (d : Option Addr) : TS := fun D σ H => ∃ xs e, Mt' K G e σ H ∧ Hot K c xs a cls d i σ H ∧ Post K G (fun _ _ _ _ => False) D (Fz G e σ H) (exH xs h e)
theorem stHs {c : Str} {fs : List Str} {a Ca : Addr} {oe : Obj} {cls : Value} {d : Option Addr} {i : Nat} {pn : List (Addr × Obj)} {h : Hs} {sts : List Stmt} (g : Gd X C T) (hc : PySem.W.nsIn X.K mainGlobals c = some (some (.ref Ca))) (xf : XfC X.K Ca) (hno : ∀ f ∈ fs, PySem.W.findIn X.K (.ref Ca) f = some none)
    (hz : Zc cls d oe) (hf : ∃ vs, oe.data = .fields vs) (q : ckH T i fs h sts = true) : PSs (X.suite a ((a, oe) :: pn)) sts (tHs X.K G c i h a cls d) := by
  have ret : ∀ {x : Hx} {y : Expr} {pos : Pos} {xs : List (Str × D)}, ckHx T i fs x y = true → PSs (X.suite a ((a, oe) :: pn)) [.Return (some y) pos] (fun D σ H => ∃ e, Mt' X.K G e σ H ∧ Hot X.K c xs a cls d i σ H ∧ Post X.K G (fun _ _ _ _ => False) D (Fz G e σ H) ((evH xs x e).to e .rt)) := fun {x y pos xs} hx =>
    pss_one (psImp (ps_ret (hxAll (xs := xs) (G := G) g hc xf hno hz hf x hx).1) fun D σ H w => by
      obtain ⟨e, m, ht, w⟩ := w
      obtain ⟨dx, k1, k2⟩ := post_to w
      exact ⟨e, dx, m, ht, k1, fun v H' s r => k2 v H' (m.ext.trans s) (r.up (cutH_same (fun b h => .inl (.inl h)) (Same.refl _)))⟩)
  unfold ckH at q
  split at q
  · split at q
    · refine pssEx fun xs => pssImp (ret (xs := xs) q) fun D σ H w => ?_
      exact w
    · cases q
  · split at q
    · simp only [Bool.and_eq_true] at q
      refine pssEx fun xs => pssImp (pss_one (ps_if (hxAll (xs := xs) (G := G) g hc xf hno hz hf _ q.1).2 (ret (xs := xs) q.2) pss_nil)) fun D σ H w => ?_
      obtain ⟨e, m, ht, w⟩ := w
      obtain ⟨k, k1, k2⟩ := post_to (by simpa only [exH] using w)
      refine ⟨e, k, m, ht, k1, fun H' s => ?_⟩
      cases k with
      | true => exact ⟨e, m.up s, ht.up s, k2.up (fz_up s)⟩
      | false => exact k2 σ H' (m.up s) (fz_up s)
    · cases q
theorem keyAny (F : Expr → Bool) (h : ∀ e, notStar e = true → F e = false) : ∀ {es : List Expr}, es.all notStar = true → es.any F = false
  | [], _ => rfl
  | e :: es, q => by
    simp only [List.all_cons, Bool.and_eq_true] at q
    rw [List.any_cons, h e q.1, keyAny F h q.2]
    rfl
theorem keyFm {α : Type} {x y : Expr} {p q : α} (G : Expr → Option α) (h1 : G x = some p) (h2 : G y = some q) : [x, y].filterMap G = [p, q] := by
  simp [h1, h2]
theorem keyFm3 {α : Type} {x y z : Expr} {p q r : α} (G : Expr → Option α) (h1 : G x = some p) (h2 : G y = some q) (h3 : G z = some r) : [x, y, z].filterMap G = [p, q, r] := by
  simp [h1, h2, h3]
theorem sw2 {env : Env} {x y : Str} {px py tp p2 : Pos} {a b : Expr} {k k2 : Nat} (hx : env.kindOf x = some .local) (hy : env.kindOf y = some .local) (bk : (env.blockKind != .function) = false) (q4 : x ≠ y) (q7 : px.line = py.line) (q8 : [a, b].all notStar = true) (q10 : [a, b].all (foldedForSure 8) = false) (q11 : [a, b].all (constantsAlone 8) = false) :
    swappedStores [.Tuple [.Name x px, .Name y py] k tp] (.Tuple [a, b] k2 p2) env = pure (some [x, y]) := by
  have e2 : (y == x) = false := beq_eq_false_iff_ne.mpr (Ne.symm q4)
  have e3 : [x, y].eraseDups = [x, y] := by simp [List.eraseDups, List.eraseDupsBy, List.eraseDupsBy.loop, e2]
  unfold swappedStores
  dsimp only
  rw [keyAny _ (fun e he => by cases e <;> first | rfl | cases he) q8, keyFm (p := x) (q := y) _ (by simp [hx, Expr.pos]) (by simp [hy, Expr.pos, q7]), e3, q10, q11, bk]
  rfl
theorem sw3 {env : Env} {x y z : Str} {px py pz tp p2 : Pos} {a b c : Expr} {k k2 : Nat} (hx : env.kindOf x = some .local) (hy : env.kindOf y = some .local) (hz : env.kindOf z = some .local) (bk : (env.blockKind != .function) = false) (q4 : x ≠ y) (q5 : x ≠ z) (q6 : y ≠ z) (q7 : px.line = py.line) (q7' : px.line = pz.line) (q8 : [a, b, c].all notStar = true) (q10 : [a, b, c].all (foldedForSure 8) = false) (q11 : [a, b, c].all (constantsAlone 8) = false) :
    swappedStores [.Tuple [.Name x px, .Name y py, .Name z pz] k tp] (.Tuple [a, b, c] k2 p2) env = pure (some [x, y, z]) := by
  have e2 : (y == x) = false := beq_eq_false_iff_ne.mpr (Ne.symm q4)
  have e4 : (z == x) = false := beq_eq_false_iff_ne.mpr (Ne.symm q5)
  have e5 : (z == y) = false := beq_eq_false_iff_ne.mpr (Ne.symm q6)
  have e3 : [x, y, z].eraseDups = [x, y, z] := by simp [List.eraseDups, List.eraseDupsBy, List.eraseDupsBy.loop, e2, e4, e5]
  unfold swappedStores
  dsimp only
  rw [keyAny _ (fun e he => by cases e <;> first | rfl | cases he) q8, keyFm3 (p := x) (q := y) (r := z) _ (by simp [hx, Expr.pos]) (by simp [hy, Expr.pos, q7]) (by simp [hz, Expr.pos, q7']), e3, q10, q11, bk]
  rfl
theorem stPar {is : List Nat} {as : Xps} {ts vs : List Expr} {k k2 : Nat} {tp p2 pos : Pos} (g : GdS X C T W) (h1 : parB T is ts vs = true) (h2 : ckl T .val as vs = true) : PS X (.Assign [.Tuple ts k tp] (.Tuple vs k2 p2) pos) (tS X.K G W (ex C (.par is as))) := by
  have loc : ∀ {x : Str}, loc1 T x = true → X.env.scope.names.lookup x = some .local := fun {x} h => by rw [g.g.sc]; exact of_decide_eq_true h
  have kd : ∀ {x : Str}, loc1 T x = true → X.env.kindOf x = some .local := fun h => loc h
  have bk : (X.env.blockKind != .function) = false := by
    have z0 : X.env.scope.kind = .function := by
      rw [g.g.sc]
      exact g.kind
    have z : X.env.blockKind = .function := by
      unfold Env.blockKind
      simp [z0, ScopeKind.isAnnotationScope]
    rw [z]
    rfl
  unfold parB at h1
  split at h1
  · rename_i i j x px y py a b
    simp only [Bool.and_eq_true, Bool.not_eq_true', decide_eq_true_eq] at h1
    obtain ⟨⟨⟨⟨⟨⟨⟨⟨⟨⟨q1, q2⟩, q3⟩, q4⟩, q5⟩, q6⟩, q7⟩, q8⟩, q9⟩, q10⟩, q11⟩ := h1
    have hw : swappedStores [.Tuple [.Name x px, .Name y py] k tp] (.Tuple [a, b] k2 p2) X.env = pure (some [x, y]) := sw2 (kd q5) (kd q6) bk q4 q7 (by simp [q8, q9]) q10 q11
    refine psImp (ps_par g.g.calm (by rw [g.g.N]; exact g.g.nd) (by rw [g.g.N]; exact q1) (by rw [g.g.N]; exact q2) q3 (loc q5) (loc q6) ((sXs X C as).val (G := G) g.g h2 (by simp [q8, q9])) hw) fun D σ H q => ?_
    obtain ⟨e, m, q⟩ := q
    obtain ⟨ds, k1, k3⟩ := post_to (by simpa only [ex] using q)
    refine ⟨e, ds, m, k1, fun vs H1 s1 r1 => ?_⟩
    have hl := evs_len h2 k1
    match ds, hl, r1 with
    | [d1, d2], _, .cons (v := v1) r1 (.cons (v := v2) r2 .nil) =>
      obtain ⟨m2, s2⟩ := (m.up s1).putV r1 i
      obtain ⟨m3, s3⟩ := m2.putV (r2.up s2) j
      exact ⟨v1, v2, rfl, k3 _ H1 m3 (((fz_up s1).trans s2).trans s3)⟩
  · rename_i i j l x px y py z pz a b c
    simp only [Bool.and_eq_true, Bool.not_eq_true', decide_eq_true_eq] at h1
    obtain ⟨⟨⟨⟨⟨⟨⟨⟨⟨⟨⟨⟨⟨⟨⟨⟨⟨⟨q1, q2⟩, q3⟩, q4⟩, q5⟩, q6⟩, q7⟩, q8⟩, q9⟩, q10⟩, q11⟩, q12⟩, q13⟩, q14⟩, q15⟩, q16⟩, q17⟩, q18⟩, q19⟩ := h1
    have hw : swappedStores [.Tuple [.Name x px, .Name y py, .Name z pz] k tp] (.Tuple [a, b, c] k2 p2) X.env = pure (some [x, y, z]) := sw3 (kd q10) (kd q11) (kd q12) bk q7 q8 q9 q13 q14 (by simp [q15, q16, q17]) q18 q19
    refine psImp (ps_par3 g.g.calm (by rw [g.g.N]; exact g.g.nd) (by rw [g.g.N]; exact q1) (by rw [g.g.N]; exact q2) (by rw [g.g.N]; exact q3) q4 q5 q6 (loc q10) (loc q11) (loc q12) ((sXs X C as).val (G := G) g.g h2 (by simp [q15, q16, q17])) hw) fun D σ H q => ?_
    obtain ⟨e, m, q⟩ := q
    obtain ⟨ds, k1, k3⟩ := post_to (by simpa only [ex] using q)
    refine ⟨e, ds, m, k1, fun vs H1 s1 r1 => ?_⟩
    have hl := evs_len h2 k1
    match ds, hl, r1 with
    | [d1, d2, d3], _, .cons (v := v1) r1 (.cons (v := v2) r2 (.cons (v := v3) r3 .nil)) =>
      obtain ⟨m2, s2⟩ := (m.up s1).putV r1 i
      obtain ⟨m3, s3⟩ := m2.putV (r2.up s2) j
      obtain ⟨m4, s4⟩ := m3.putV ((r3.up s2).up s3) l
      exact ⟨v1, v2, v3, rfl, k3 _ H1 m4 ((((fz_up s1).trans s2).trans s3).trans s4)⟩
  · cases h1
theorem GdS.tr {W' : WX} (g : GdS X C T W) (pn : List (Addr × Obj)) (xe : Value → Shared → Prop) (tk : Takes (X.tr pn xe) W') (pass : PassesOwn (model X.prog X.w) X.A X.env xe) : GdS (X.tr pn xe) C T W' :=
  ⟨g.g.tr pn xe, fun j f n h => ⟨(g.fx j f n h).ex⟩, fun c fs h => ⟨(g.xc c fs h).ex⟩, g.xd, tk, g.st, g.fr, g.fn, g.kind, pass⟩
theorem lookMem {c : Str} {fs : List Str} : ∀ {xs : List (Str × List Str)}, xs.lookup c = some fs → (c, fs) ∈ xs
  | [], h => by cases h
  | (y, z) :: r, h => by
    simp only [List.lookup] at h
    cases e : c == y with
    | true =>
      rw [e] at h
      cases h
      rw [eq_of_beq e]
      exact List.mem_cons_self
    | false =>
      rw [e] at h
      exact List.mem_cons_of_mem _ (lookMem h)
theorem exH_post {K : Fg} {G : Gh} {D : Ends} {W : WX} {xs : List (Str × PyData)} {F F' : Hp} {h : Hs} {e : Vn} {i : Nat} (he : gt e i = none) (s : Same F F') (q : Post K G W D F (exH xs h e)) :
    Post K G (fun _ _ _ _ => False) { nx := fun σ' H' => D.nx (σ'.set i none) H', rt := D.rt, bk := fun σ' H' => D.bk (σ'.set i none) H', ct := fun σ' H' => D.ct (σ'.set i none) H' } F' (exH xs h e) := by
  have nx : ∀ σ' H', Mt' K G e σ' H' → Same F' (Fz G e σ' H') → (∀ σ' H', Mt' K G e σ' H' → Same F (Fz G e σ' H') → D.nx σ' H') → D.nx (σ'.set i none) H' := fun σ' H' m t z => by
    obtain ⟨m2, s2⟩ := m.anyAt he none
    exact z _ H' m2 ((s.trans t).trans s2)
  cases h with
  | ret a =>
    obtain ⟨d, h1, h2⟩ := post_to (by simpa only [exH] using q)
    simp only [exH, h1, Rs.to_ok]
    exact h2
  | ifr c a =>
    obtain ⟨k, h1, h2⟩ := post_to (by simpa only [exH] using q)
    cases k with
    | true =>
      simp only [if_true] at h2
      obtain ⟨d, h3, h4⟩ := post_to h2
      simp only [exH, h1, Rs.to_ok, if_true, h3]
      exact h4
    | false =>
      simp only [Bool.false_eq_true, if_false] at h2
      simp only [exH, h1, Rs.to_ok, Bool.false_eq_true, if_false]
      exact fun σ' H' m t => nx σ' H' m t h2
theorem stTry {body : Sms} {c : Str} {os : List Str} {i : Nat} {h : Hs} {bd : List Stmt} {n m : Str} {st : Stmt} {sts : List Stmt} {np hp pos : Pos} {fs : List Str} (g : GdS X C T W)
    (hb : ∀ {X : Cx} {W : WX}, GdS X C T W → PSs X bd (tS X.K G W (exs C body))) (h1 : n = c) (h2 : glB T.sc n = true) (h3 : slB T i m = true) (h4 : loc1 T m = true) (h5 : ∀ o ∈ os, ∃ fs', (o, fs') ∈ T.xcs) (h6 : T.xcs.lookup c = some fs) (h7 : ckH T i fs h (st :: sts) = true) :
    PS X (.Try bd [.ExceptHandler (some (.Name n np)) (some m) (st :: sts) hp] [] [] pos) (tS X.K G W (ex C (.trc body c os i h))) := by
  subst h1
  simp only [slB, Bool.and_eq_true, decide_eq_true_eq] at h3
  have hmem := lookMem h6
  obtain ⟨k, Ca, fI, fd, m1, m2, m3, m4, m5, m6, m7, m8, m9, m10⟩ := (g.xc n fs hmem).ex
  refine psImp (ps_try_as (c := .ref Ca) (tb := fun W' => tS X.K G W' (exs C body)) (ts := tHs X.K G n i h) (Wout := W) g.st g.fr (by rw [g.g.N]; exact g.g.nd) (by rw [g.g.N]; exact h3.1) (by show X.env.scope.names.lookup m = _; rw [g.g.sc]; exact of_decide_eq_true h4)
    ⟨(glOf g.g h2).1, (glOf g.g h2).2, .inl m1⟩ g.tk (fun W' pn xe tk' pass => hb (g.tr pn xe tk' pass)) fun a oe cls d pn hz hf => stHs g.g m2 m4 m5 hz hf h7) fun D σ H q => ?_
  obtain ⟨e, m, q⟩ := q
  refine ⟨e, m, ?_⟩
  have q' : Post X.K G W D (Fz G e σ H) ((exs C body e).catch fun c' fs e' => if c' = n then exH fs h (pt e' i none) else if os.contains c' then .er c' fs e' else .st) := by simpa only [ex] using q
  cases o : exs C body e with
  | nx e' => rw [o] at q'; exact q'
  | bk e' => rw [o] at q'; exact q'
  | ct e' => rw [o] at q'; exact q'
  | rt d => rw [o] at q'; exact q'
  | st => rw [o] at q'; exact q'.elim
  | er c' xs e' =>
    rw [o] at q'
    simp only [Ot.catch_er] at q'
    intro σ' H' mm t cls d x
    obtain ⟨C', dd, vs, x1, x2, x3, x4, x5⟩ := id x
    by_cases hc : c' = n
    · subst hc
      rw [if_pos rfl] at q'
      rw [m2] at x1
      cases x1
      subst x2
      refine ⟨true, by rw [g.xd c' c' fs fs Ca Ca hmem hmem m2 m2]; simp, fun _ a ha => ?_, fun z => nomatch z⟩
      have hk : kil [i] e' = pt e' i none := rfl
      have m3' := mm.kill [i]
      have t3 := fz_kill (G := G) (σ := σ') (H := H') [i] e'
      rw [hk] at m3' t3
      obtain ⟨m4', s4⟩ := m3'.anyAt (gt_pt_none e' i) (some (.ref a))
      exact ⟨xs, pt e' i none, m4', ⟨fun hi => by rw [List.getElem?_set_self (by rw [List.length_set] at hi; exact hi)], x⟩, exH_post (gt_pt_none e' i) ((t.trans t3).trans s4) q'⟩
    · rw [if_neg hc] at q'
      split at q'
      · rename_i ho
        obtain ⟨fs', hm'⟩ := h5 c' (List.contains_iff_mem.mp ho)
        subst x2
        exact ⟨false, by rw [g.xd c' n fs' fs C' Ca hm' hmem x1 m2]; simp [hc], fun z => (nomatch z), fun _ => q' σ' H' mm t _ _ x⟩
      · exact q'.elim
end
mutual
theorem sSm (C : Cn) : ∀ s : Sm, PSm C s
  | .ex a => ⟨fun {X T G W x} g h => by
    cases x <;> first | (cases h; done) | skip
    simp only [ckS, Bool.and_eq_true] at h
    exact stEx g h.1 h.2⟩
  | .set i a => ⟨fun {X T G W x} g h => by
    unfold ckS at h
    split at h
    · simp only [Bool.and_eq_true] at h
      exact stSet g h.1 h.2
    · cases h⟩
  | .setO i a => ⟨fun {X T G W x} g h => by
    unfold ckS at h
    split at h
    · simp only [Bool.and_eq_true] at h
      exact stSetO g h.1.1 h.1.2 h.2
    · cases h⟩
  | .unp t a => ⟨fun {X T G W x} g h => by
    unfold ckS at h
    split at h
    · simp only [Bool.and_eq_true] at h
      exact stUnp g h.1.1.1 h.1.1.2 h.1.2 h.2
    · cases h⟩
  | .app i a => ⟨fun {X T G W x} g h => by
    unfold ckS at h
    split at h
    · simp only [Bool.and_eq_true, decide_eq_true_eq] at h
      obtain ⟨⟨⟨⟨rfl, h1⟩, h2⟩, h3⟩, h4⟩ := h
      exact stApp g h1 h2 h3 h4
    · cases h⟩
  | .ext i a => ⟨fun {X T G W x} g h => by
    unfold ckS at h
    split at h
    · simp only [Bool.and_eq_true, decide_eq_true_eq] at h
      obtain ⟨⟨⟨⟨rfl, h1⟩, h2⟩, h3⟩, h4⟩ := h
      exact stExt g h1 h2 h3 h4
    · cases h⟩
  | .puti i k a => ⟨fun {X T G W x} g h => by
    unfold ckS at h
    split at h
    · simp only [Bool.and_eq_true] at h
      exact stPuti g h.1.1.1 h.1.1.2 h.1.2 h.2
    · cases h⟩
  | .dput i k a => ⟨fun {X T G W x} g h => by
    unfold ckS at h
    split at h
    · simp only [Bool.and_eq_true] at h
      exact stDput g h.1.1.1.1 h.1.1.1.2 h.1.2 h.2
    · cases h⟩
  | .dputT i ks a => ⟨fun {X T G W x} g h => by
    unfold ckS at h
    split at h
    · simp only [Bool.and_eq_true, decide_eq_true_eq] at h
      exact stDputT g h.1.1.1.1 h.1.1.2 h.1.2 h.2
    · cases h⟩
  | .aug i op a => ⟨fun {X T G W x} g h => by
    unfold ckS at h
    split at h
    · simp only [Bool.and_eq_true] at h
      exact stAug g h.1 h.2
    · cases h⟩
  | .ret a => ⟨fun {X T G W x} g h => by
    unfold ckS at h
    split at h
    · exact stRet g h
    · cases h⟩
  | .retn => ⟨fun {X T G W x} g h => by
    unfold ckS at h
    split at h
    · exact stRetn
    · cases h⟩
  | .ifs c a b => ⟨fun {X T G W x} g h => by
    unfold ckS at h
    split at h
    · simp only [Bool.and_eq_true] at h
      exact stIf g h.1.1 ((sSms C a).st g h.1.2) ((sSms C b).st g h.2)
    · cases h⟩
  | .fors t w body kl => ⟨fun {X T G W x} g h => by
    unfold ckS at h
    split at h
    · simp only [Bool.and_eq_true] at h
      exact stFor g h.1.1.1 h.1.1.2 h.1.2 fun G => (sSms C body).st g h.2
    · cases h⟩
  | .whl n c body kl => ⟨fun {X T G W x} g h => by
    unfold ckS at h
    split at h
    · simp only [Bool.and_eq_true] at h
      exact stWhl g h.1 ((sSms C body).st g h.2)
    · cases h⟩
  | .brk => ⟨fun {X T G W x} g h => by
    cases x <;> first | (cases h; done) | skip
    exact psImp ps_break fun D σ H ⟨e, m, q⟩ => q σ H m (Same.refl _)⟩
  | .cnt => ⟨fun {X T G W x} g h => by
    cases x <;> first | (cases h; done) | skip
    exact psImp ps_continue fun D σ H ⟨e, m, q⟩ => q σ H m (Same.refl _)⟩
  | .pas => ⟨fun {X T G W x} g h => by
    cases x <;> first | (cases h; done) | skip
    exact psImp ps_pass fun D σ H ⟨e, m, q⟩ => q σ H m (Same.refl _)⟩
  | .bad => ⟨fun {X T G W x} g h => ⟨fun pins s σ H D I ⟨e, m, q⟩ => q.elim⟩⟩
  | .setX i r => ⟨fun {X T G W x} g h => by
    unfold ckS at h
    split at h
    · simp only [Bool.and_eq_true] at h
      exact stSetX g h.1.1 h.1.2 h.2
    · cases h⟩
  | .retX r => ⟨fun {X T G W x} g h => by
    unfold ckS at h
    split at h
    · exact stRetX g h
    · cases h⟩
  | .exX r => ⟨fun {X T G W x} g h => by
    unfold ckS at h
    split at h
    · simp only [Bool.and_eq_true] at h
      exact stExX g h.1 h.2
    · cases h⟩
  | .unpX t r => ⟨fun {X T G W x} g h => by
    unfold ckS at h
    split at h
    · simp only [Bool.and_eq_true] at h
      exact stUnpX g h.1.1.1 h.1.1.2 h.1.2 h.2
    · cases h⟩
  | .rai c fs as => ⟨fun {X T G W x} g h => by
    unfold ckS at h
    split at h
    · simp only [Bool.and_eq_true, decide_eq_true_eq] at h
      obtain ⟨⟨⟨⟨⟨h1, h2⟩, h3⟩, h4⟩, h5⟩, h6⟩ := h
      exact stRai g h1 h2 h3 h4 h5 h6
    · cases h⟩
  | .par is as => ⟨fun {X T G W x} g h => by
    unfold ckS at h
    split at h
    · simp only [Bool.and_eq_true] at h
      exact stPar g h.1 h.2
    · cases h⟩
  | .trc body c os i hh => ⟨fun {X T G W x} g h => by
    unfold ckS at h
    split at h
    · simp only [Bool.and_eq_true, decide_eq_true_eq] at h
      obtain ⟨⟨⟨⟨⟨⟨⟨h1, h2⟩, h3⟩, h4⟩, h5⟩, h6⟩, h7⟩, h8⟩ := h
      split at h8
      · rename_i fs hl
        refine stTry g (fun {X W} g' => (sSms C body).st g' h1) h2 h3 h5 h6 (fun o ho => ?_) hl h8
        obtain ⟨p, hp, e⟩ := List.any_eq_true.mp (List.all_eq_true.mp h7 o ho)
        have e' : p.1 = o := of_decide_eq_true e
        exact ⟨p.2, by rw [← e']; exact hp⟩
      · cases h8
    · cases h⟩
theorem sSms (C : Cn) : ∀ s : Sms, PSms C s
  | .nil => ⟨fun {X T G W xs} g h => by
    cases xs with
    | cons _ _ => simp [ckSs] at h
    | nil => exact pssImp pss_nil fun D σ H ⟨e, m, q⟩ => q σ H m (Same.refl _)⟩
  | .cons s r => ⟨fun {X T G W xs} g h => by
    cases xs with
    | nil => simp [ckSs] at h
    | cons x xs =>
      simp only [ckSs, Bool.and_eq_true] at h
      refine pssImp (pss_cons ((sSm C s).st (G := G) g h.1) ((sSms C r).st (G := G) g h.2)) fun D σ H q => ?_
      obtain ⟨e, m, q⟩ := q
      refine ⟨e, m, ?_⟩
      have q' : Post X.K G W D (Fz G e σ H) ((ex C s e).then (exs C r)) := by simpa only [exs] using q
      cases o : ex C s e with
      | nx e' => rw [o] at q'; exact fun σ' H' m' t => ⟨e', m', q'.up t⟩
      | bk e' => rw [o] at q'; exact q'
      | ct e' => rw [o] at q'; exact q'
      | rt d => rw [o] at q'; exact q'
      | er c xs e' => rw [o] at q'; exact q'
      | st => rw [o] at q'; exact q'.elim⟩
  | .frz i r => ⟨fun {X T G W xs} g h => by
    simp only [ckSs] at h
    refine pssImp (pssLk ((sSms C r).st (G := G) g h)) fun D σ H q => ?_
    obtain ⟨e, m, q⟩ := q
    obtain ⟨d, h1, h2⟩ := post_to (by simpa only [exs] using q)
    cases d with
    | dict ps =>
      obtain ⟨a, u, z1, z2, z3⟩ := m.freezeD (gt_own h1)
      exact .inr ⟨a, u, z1, z2, fun od => ⟨_, (z3 od).1, h2.up (z3 od).2⟩⟩
    | _ => exact .inl ⟨_, m.freeze (gt_own h1) rfl, h2.up (fz_freeze (gt_own h1))⟩⟩
  | .kill is r => ⟨fun {X T G W xs} g h => by
    simp only [ckSs] at h
    refine pssImp ((sSms C r).st (G := G) g h) fun D σ H q => ?_
    obtain ⟨e, m, q⟩ := q
    exact ⟨_, m.kill is, Post.up (fz_kill is e) (by simpa only [exs] using q)⟩⟩
end
end Bk
/-! E13: a def keeps the promise that its term tells. -/
namespace Bk
open PySem PySem.Spec PyProof.Rows L2
structure FnAt (P : Program) (w : World) (K : Fg) (mg : Str → Option Value) (base : Heap) (k : Nat) (f : Str) (n : Nat) (F : List D → Rs D) : Prop where
  ex : ∃ (fa : Addr) (fd : FuncData) (ps : List Str), mg f = some (.ref fa) ∧ PySem.W.keepIn K (.ref fa) = true ∧ FnOk P w K mg base (CX P w) k fa fd ps (spX K n F) ∧ Binds K fd ps []
  ns : ∃ fa : Addr, PySem.W.nsIn K mainGlobals f = some (some (.ref fa))
theorem FnAt.mono {P : Program} {w : World} {K : Fg} {mg : Str → Option Value} {base : Heap} {j k : Nat} {f : Str} {n : Nat} {F : List D → Rs D} (h : FnAt P w K mg base j f n F) (hk : j ≤ k) : FnAt P w K mg base k f n F := by
  obtain ⟨fa, fd, ps, h1, h2, h3, h4⟩ := h.ex
  exact ⟨⟨fa, fd, ps, h1, h2, h3.mono hk, h4⟩, h.ns⟩
/-- an own class of exceptions -/
structure XcAt (P : Program) (w : World) (K : Fg) (mg : Str → Option Value) (base : Heap) (c : Str) (fs : List Str) : Prop where
  ex : ∃ (C fI : Addr) (fd : FuncData), mg c = some (.ref C) ∧ PySem.W.nsIn K mainGlobals c = some (some (.ref C)) ∧ OexC K C ∧ XfC K C ∧ (∀ f ∈ fs, PySem.W.findIn K (.ref C) f = some none) ∧
    PySem.W.findIn K (.ref C) "__init__" = some (some (.ref fI)) ∧ PySem.W.typeIn K (.ref fI) = some (.type "function") ∧ FnOk P w K mg base (CX P w) 1 fI fd ("self" :: fs) (spInit C fs) ∧ Binds K fd ("self" :: fs) []
def Apart2 (K : Fg) (xcs : List (Str × List Str)) : Prop := ∀ (c c' : Str) (fs fs' : List Str) (a b : Addr), (c, fs) ∈ xcs → (c', fs') ∈ xcs → PySem.W.nsIn K mainGlobals c = some (some (.ref a)) → PySem.W.nsIn K mainGlobals c' = some (some (.ref b)) → PySem.W.exmOne K (.ref a) (.ref b) = some (decide (c = c'))
/-- the module's constants -/
def GlAt (K : Fg) (mg : Str → Option Value) (gls : List Str) (C : Cn) : Prop := ∀ j x d, gls[j]? = some x → C.gl j = .ok d → ∃ u v, mg x = some u ∧ RelV v u ∧ ∀ F, Rp K F v d
def Fresh (mg : Str → Option Value) : Prop := ∀ x ∈ blts, mg x = none
section
variable {P : Program} {w : World} {K : Fg} {mg : Str → Option Value} {base : Heap}
theorem _root_.L2.Room.dp8 {k : Nat} {A : Around} (r : Room (k + 2) A) : A.depth + 8 < recursionLimit ∧ A.units + 100 < cLine := ⟨by have := r.dp; omega, by have := r.un; omega⟩
theorem start_mt {N : List Str} {vs : List V} {ds : List D} {H : Hp} {ban : Addr → Prop} (htb : Tabs K H) (hb : ∀ b, ban b → NT (H b)) (r : RpA K (cutH ban H) vs ds) :
    Mt' K ⟨ban, H⟩ (ds.map (fun d => some (Sl.v d)) ++ List.replicate (N.length - ds.length) none) (L2.start N vs) H := by
  have hl := r.len
  have noOwn : ∀ (n : Nat) (ds : List D) (j : Nat) (d : D), gt (ds.map (fun d => some (Sl.v d)) ++ List.replicate n none) j ≠ some (.o d) := fun n ds => by
    induction ds with
    | nil =>
      intro j d
      rw [List.map_nil, List.nil_append, gt_get]
      cases q : (List.replicate n (none : Option Sl))[j]? with
      | none => exact fun z => nomatch z
      | some s =>
        have := List.mem_of_getElem? q
        rw [List.mem_replicate] at this
        rw [this.2]
        exact fun z => nomatch z
    | cons x xs ih =>
      intro j d
      cases j with
      | zero => exact fun z => nomatch z
      | succ j => exact ih j d
  have valAt : ∀ (n : Nat) (ds : List D) (vs : List V) (j : Nat) (d : D), RpA K (cutH ban H) vs ds → gt (ds.map (fun d => some (Sl.v d)) ++ List.replicate n none) j = some (.v d) → ∃ v, (vs.map some ++ List.replicate n none : Stt)[j]? = some (some v) ∧ Rp K (cutH ban H) v d := fun n ds => by
    induction ds with
    | nil =>
      intro vs j d r h
      rw [List.map_nil, List.nil_append, gt_get] at h
      cases q : (List.replicate n (none : Option Sl))[j]? with
      | none => rw [q] at h; cases h
      | some s =>
        have := List.mem_of_getElem? q
        rw [List.mem_replicate] at this
        rw [q, this.2] at h
        cases h
    | cons x xs ih =>
      intro vs j d r h
      cases r with
      | cons r1 r2 =>
        cases j with
        | zero =>
          cases h
          exact ⟨_, rfl, r1⟩
        | succ j =>
          obtain ⟨v, h1, h2⟩ := ih _ j d r2 h
          exact ⟨v, h1, h2⟩
  have hs : ∀ {e : Vn} {σ : Stt}, (∀ j d, gt e j ≠ some (.o d)) → Same (cutH ban H) (Fz ⟨ban, H⟩ e σ H) := fun {e σ} h => cutH_same (fun b z => z.elim .inl fun ⟨j, d, q, _⟩ => absurd q (h j d)) (Same.refl H)
  refine ⟨?_, Same.refl H, hb, fun i d h => ?_, fun i d h => absurd h (noOwn _ ds i d), fun i j a d d' h => absurd h (noOwn _ ds i d), htb⟩
  · unfold L2.start
    rw [List.length_append, List.length_append, List.length_map, List.length_map, List.length_replicate, List.length_replicate, hl]
  · have e0 : L2.start N vs = (vs.map some ++ List.replicate (N.length - ds.length) none : Stt) := by
      unfold L2.start
      rw [hl]
    rw [e0]
    obtain ⟨v, h1, h2⟩ := valAt _ ds vs i d r h
    exact ⟨v, h1, h2.up (hs (noOwn _ ds))⟩
/-- the code object of the def at f stands in K with its table -/
structure CdAt (K : Fg) (mg : Str → Option Value) (base : Heap) (f : Addr) : Prop where
  ex : ∀ o fd, K.lookup f = some o → o.data = .func fd → fd.globals = mainGlobals → fd.closure = [] → ∃ c P, fd.code = .ref c ∧ TK K c P ∧ GxR.TabB base mg c P
theorem fnOkD {x qual : Str} {params : Arguments} {body : List Stmt} {scope : Scope} {f : Addr} {fd : FuncData} {N ps : List Str} {k : Nat} {C : Cn} {fns : List (Str × Nat)} {gls : List Str} {gx : Bool} {xcs : List (Str × List Str)} {ir : Sms} (F : FunD K x qual params body scope [] [] f fd) (S : FnScope N ps scope)
    (fr : Fresh mg) (gl : GlAt K mg gls C) (xc : ∀ c fs, (c, fs) ∈ xcs → XcAt P w K mg base c fs) (xd : Apart2 K xcs) (fn : ∀ j g n, fns[j]? = some (g, n) → FnAt P w K mg base k g n (C.fn j)) (cd : gx = true → CdAt K mg base f) (h : ckSs ⟨N, scope, fns, gls, gx, xcs⟩ ir body = true) :
    FnOk P w K mg base (CX P w) (k + 3) f fd ps (spX K ps.length (run C N.length ir)) := by
  obtain ⟨oc, od, dV, kV, doc, pm, an, cdv, ct, osl, rfl, lk, hcd, _, _⟩ := F.ex
  refine fn_of lk hcd S (fun vs H Q E q => q.1) (fun A outer s H vs Q E hr q => ?_)
  obtain ⟨h1, htb, ban, ds, h2, h3, h4⟩ := q
  have G0 : Gd (cxOf (CX P w) P w K mg base N qual scope f cdv A outer s H E) C ⟨N, scope, fns, gls, gx, xcs⟩ := ⟨rfl, rfl, S.nd, rfl, fr, gl, fun j g n hm => by
    obtain ⟨fa, fd', ps', k1, k2, k3, k4⟩ := (fn j g n hm).ex
    exact ⟨k, fa, fd', ps', k1, k2, calmOk k3, hr.mono (Nat.add_le_add_left (show lvl gx ≤ 2 by cases gx <;> decide) k), k4⟩, hr.units, fun _ => hr.dp8, fun j g n hm => (fn j g n hm).ns, fun z => by
    obtain ⟨c, P2, e1, e2, e3⟩ := (cd z).ex _ _ lk rfl rfl rfl
    exact ⟨c, P2, e1, e2, e3⟩⟩
  have tk : Takes (cxOf (CX P w) P w K mg base N qual scope f cdv A outer s H E) (fun cls d _ H' => E cls d H') := takes_of rfl rfl rfl rfl
  refine ⟨_, (sSms C ir).st (G := ⟨ban, H⟩) (W := fun cls d _ H' => E cls d H') ⟨G0, fun j g n hm => by
    obtain ⟨fa, fd', ps', k1, k2, k3, k4⟩ := (fn j g n hm).ex
    exact ⟨k, fa, fd', ps', k1, k2, k3, hr.mono (Nat.le_add_right k 2), k4⟩, fun c fs hm => by
    obtain ⟨Ca, fI, fd', k1, k2, k3, k4, k5, k6, k7, k8, k9⟩ := (xc c fs hm).ex
    exact ⟨1, Ca, fI, fd', k1, k2, k3, k4, k5, k6, k7, k8, hr.mono (Nat.le_add_left 2 k), k9⟩, xd, tk, rfl, rfl, fun _ => rfl, S.kind, passes_of rfl⟩ h, ?_⟩
  refine ⟨_, start_mt (N := N) htb h2 h3, ?_⟩
  unfold run at h4
  by_cases hl : ds.length ≤ N.length
  · rw [if_pos hl] at h4
    revert h4
    generalize exs C ir _ = o
    intro h4
    cases o with
    | nx e' => exact fun σ' H' m _ => h4 _ H' m.ext .non
    | rt d' => exact fun v H' s r => h4 v H' s r
    | er c xs e' => exact fun σ' H' m _ cls d x => h4 cls d H' m.ext x
    | bk e' => exact h4.elim
    | ct e' => exact h4.elim
    | st => exact h4.elim
  · rw [if_neg hl] at h4
    exact h4.elim
theorem fnAt {x qual : Str} {params : Arguments} {body : List Stmt} {scope : Scope} {f : Addr} {fd : FuncData} {N ps : List Str} {k : Nat} {C : Cn} {fns : List (Str × Nat)} {gls : List Str} {gx : Bool} {xcs : List (Str × List Str)} {ir : Sms} (F : FunD K x qual params body scope [] [] f fd) (S : FnScope N ps scope)
    (hg : mg x = some (.ref f)) (hn : PySem.W.nsIn K mainGlobals x = some (some (.ref f))) (hb : Binds K fd ps []) (fr : Fresh mg) (gl : GlAt K mg gls C) (xc : ∀ c fs, (c, fs) ∈ xcs → XcAt P w K mg base c fs) (xd : Apart2 K xcs) (fn : ∀ j g n, fns[j]? = some (g, n) → FnAt P w K mg base k g n (C.fn j)) (cd : gx = true → CdAt K mg base f)
    (h : ckSs ⟨N, scope, fns, gls, gx, xcs⟩ ir body = true) : FnAt P w K mg base (k + 3) x ps.length (run C N.length ir) :=
  ⟨⟨f, fd, ps, hg, F.kp, fnOkD F S fr gl xc xd fn cd h, hb⟩, f, hn⟩
theorem fnAt0 {x qual : Str} {params : Arguments} {body : List Stmt} {scope : Scope} {f : Addr} {fd : FuncData} {N ps : List Str} {k : Nat} (F : FunD K x qual params body scope [] [] f fd) (S : FnScope N ps scope)
    (hg : mg x = some (.ref f)) (hn : PySem.W.nsIn K mainGlobals x = some (some (.ref f))) (hb : Binds K fd ps []) : FnAt P w K mg base (k + 3) x ps.length (fun _ => .st) := by
  refine ⟨⟨f, fd, ps, hg, F.kp, F.ok S (fun vs H Q E q => q.1) (fun cdv A outer s H vs Q E hr q => ?_), hb⟩, f, hn⟩
  obtain ⟨_, _, _, _, _, _, h4⟩ := q
  exact h4.elim
end
end Bk
/-! E13b: the module's own classes of exceptions, seen at the top. -/
namespace Bk
open PySem PySem.Spec PyProof.Rows L2
def isInit : Stmt → Bool
  | .FunctionDef n .. => decide (n = "__init__")
  | _ => false
/-- the __init__ of a class -/
def initOf (s : Stmt) : Stmt := match s with
  | .ClassDef _ _ _ b _ _ _ _ _ _ _ => (b.find? isInit).getD (.Pass ⟨0, 0, 0, 0⟩)
  | _ => .Pass ⟨0, 0, 0, 0⟩
def initAd (K : Fg) (c : Str) : Addr := He.ma K (He.ga K c) "__init__"
abbrev IW : Type := Option (Str × Str × Arguments × FuncBody × Scope × Addr × List Str × Addr)
def initW (K : Fg) (c : Str) : IW := match K.lookup (initAd K c) with
  | some ⟨_, _, .func fd, _⟩ => some (fd.name, fd.qualname, fd.params, fd.body, fd.scope, fd.globals, fd.closure.map (·.1), fd.builtins)
  | _ => none
structure XcD where
  name : Str
  fs : List Str
  qual : Str
  params : Arguments
  body : List Stmt
  scope : Scope
def XcD.val (d : XcD) : IW := some ("__init__", d.qual, d.params, .stmts d.body, d.scope, mainGlobals, ["__class__"], builtinsNs)
def oexB (K : Fg) (C : Addr) : Bool := (match K.lookup C with
  | some ⟨.type t, _, .cls cd, sl⟩ => decide (t = "type") && (match cd.mro, sl.toList with
    | .ref C' :: bm, [_, _, _, _, some (.builtin n), _] => decide (C' = C) && (decide (n = "ValueError.__new__") && (!cd.hasDel && (cd.hasDict && PySem.HandSPX.refsVE bm)))
    | _, _ => false)
  | _ => false) && (He.eqO (PySem.W.findIn K (.ref C) "__setattr__") (some (some (.builtin "object.__setattr__"))) && (decide (PySem.W.subIn K (.ref C) (.type "BaseException") = some true) && (decide (PySem.W.typeIn K (.ref C) = some (.type "type")) && PySem.W.keepIn K (.ref C))))
theorem oexB_ok {K : Fg} {C : Addr} (h : oexB K C = true) : OexC K C := by
  obtain ⟨h1, h⟩ := He.ba h
  obtain ⟨h2, h⟩ := He.ba h
  obtain ⟨h3, h⟩ := He.ba h
  obtain ⟨h4, h5⟩ := He.ba h
  refine ⟨?_, He.eqO_ok h2, of_decide_eq_true h3, of_decide_eq_true h4, h5⟩
  split at h1
  · rename_i t dd cd sl ho
    obtain ⟨ht, h1⟩ := He.ba h1
    split at h1
    · rename_i C' bm k0 k1 k2 k3 n k5 hm hs
      obtain ⟨e1, h1⟩ := He.ba h1
      obtain ⟨e2, h1⟩ := He.ba h1
      obtain ⟨e3, h1⟩ := He.ba h1
      obtain ⟨e4, e5⟩ := He.ba h1
      have e1 := of_decide_eq_true e1
      have e2 := of_decide_eq_true e2
      have ht := of_decide_eq_true ht
      simp only [Bool.not_eq_true'] at e3
      subst e1 e2 ht
      obtain ⟨nm, bs, mro, ns, qn, hd, sn, sub, ab, col, del⟩ := cd
      dsimp only at hm e3 e4 e5
      subst hm e3 e4
      have hsl : sl = #[k0, k1, k2, k3, some (.builtin "ValueError.__new__"), k5] := by
        obtain ⟨l⟩ := sl
        simp only at hs
        rw [hs]
      subst hsl
      exact ⟨nm, qn, ns, bs, bm, sn, sub, ab, col, dd, k0, k1, k2, k3, k5, ho, e5⟩
    · cases h1
  · cases h1
def codB (P : Program) (K : Fg) (C : Addr) (q : Str) (f : Addr) : Bool := match K.lookup f with
  | some ⟨_, _, .func fd, _⟩ => (match fd.code, fd.closure, fd.defaults with
    | .ref cda, [(_, cc)], .none => PySem.W.codeIn K (.ref cda) q && ((match K.lookup cda with
      | some ⟨_, _, .fields vs, _⟩ => (match (vs[2]? : Option Value) with
        | some (.str file _) => ((P.main.file : Str) == file)
        | _ => false)
      | _ => false) && (match K.lookup cc with
      | some ⟨_, _, .cell (some (.ref D)), _⟩ => decide (D = C)
      | _ => false))
    | _, _, _ => false)
  | _ => false
def xcB (P : Program) (K : Fg) (d : XcD) : Bool := (He.Fa.glo d.name).ok K && ((He.Fa.free "super").ok K && (oexB K (He.ga K d.name) && (xfB K (He.ga K d.name) && (d.fs.all (fun f => He.eqO (PySem.W.findIn K (.ref (He.ga K d.name)) f) (some none)) &&
  (He.eqO (PySem.W.findIn K (.ref (He.ga K d.name)) "__init__") (some (some (.ref (initAd K d.name)))) && (decide (PySem.W.typeIn K (.ref (initAd K d.name)) = some (.type "function")) && (codB P K (He.ga K d.name) d.qual (initAd K d.name) &&
  (He.eqO (PySem.W.ks_superIn K (He.ga K d.name) (He.ga K d.name) "__init__") (some (some (.builtin "ValueError.__init__"))) && (decide (PySem.W.subIn K (.ref (He.ga K d.name)) (.type "ValueError") = some true) && (decide (PySem.W.mroIn K (He.ga K d.name) (.ref (He.ga K d.name)) = some true) &&
  He.eqO (PySem.W.nsIn K cStatics "thirdparty.any") (some none)))))))))))
theorem codB_ok {P : Program} {K : Fg} {C f : Addr} {d : XcD} (h : codB P K C d.qual f = true) (e : (match K.lookup f with
  | some ⟨_, _, .func fd, _⟩ => (some (fd.name, fd.qualname, fd.params, fd.body, fd.scope, fd.globals, fd.closure.map (·.1), fd.builtins) : IW)
  | _ => none) = d.val) : ∃ (oc : Value) (od : Option Addr) (osl : Array (Option Value)) (cc cda : Addr) (vs : Array Value) (file : Str) (tf : Tok) (occ : Value) (ocd : Option Addr) (ccs : Array (Option Value)) (cl : Value) (cld : Option Addr) (csl : Array (Option Value)) (kV doc pm ct : Value) (an : Option Addr),
    K.lookup f = some ⟨oc, od, .func (PySem.W.fnX "__init__" d.qual d.params d.body d.scope [("__class__", cc)] .none kV doc pm an (.ref cda) ct), osl⟩ ∧ PySem.W.codeIn K (.ref cda) d.qual = true ∧ K.lookup cda = some ⟨occ, ocd, .fields vs, ccs⟩ ∧
      vs[2]? = some (.str file tf) ∧ ((P.main.file : Str) == file) = true ∧ K.lookup cc = some ⟨cl, cld, .cell (some (.ref C)), csl⟩ := by
  unfold codB at h
  cases q : K.lookup f with
  | none =>
    rw [q] at h
    cases h
  | some o =>
    obtain ⟨oc, od, dt, osl⟩ := o
    rw [q] at h e
    cases dt with
    | func fd =>
      obtain ⟨n1, n2, n3, n4, n5, n6, n7, n8, n9, n10, n11, n12, n13, n14, n15⟩ := fd
      have e2 : (some (n1, n2, n3, n4, n5, n6, n7.map (·.1), n15) : IW) = (some ("__init__", d.qual, d.params, .stmts d.body, d.scope, mainGlobals, ["__class__"], builtinsNs) : IW) := e
      simp only [Option.some.injEq, Prod.mk.injEq] at e2
      obtain ⟨h1, h2, h3, h4, h5, h6, h7, h8⟩ := e2
      subst h1 h2 h3 h4 h5 h6 h8
      dsimp only at h
      split at h
      · rename_i cda cn cc
        obtain ⟨z1, h⟩ := He.ba h
        obtain ⟨z2, z3⟩ := He.ba h
        simp only [List.map_cons, List.map_nil, List.cons.injEq, and_true] at h7
        subst h7
        split at z2
        · rename_i occ ocd vs ccs ho
          split at z2
          · rename_i file tf hv
            split at z3
            · rename_i cl cld D csl hc
              have z3 := of_decide_eq_true z3
              subst z3
              exact ⟨oc, od, osl, cc, cda, vs, file, tf, occ, ocd, ccs, cl, cld, csl, _, _, _, _, _, rfl, z1, ho, hv, z2, hc⟩
            · cases z3
          · cases z2
        · cases z2
      · cases h
    | _ => cases h
theorem xcAt {P : Program} {w : World} {K : Fg} {h base : Heap} {mg : Str → Option Value} {d : XcD} {fn : Str} {ar : Arg} {p0 p1 p2 p3 p4 p5 q1 q2 q3 q4 : Pos} (X : K.In h) (G : h.Ns mainGlobals mg) (e : initW K d.name = d.val) (c : xcB P K d = true) (hfs : d.fs = [fn])
    (S : NdefX.NScope ["self", fn, "__class__"] ["self", fn] ["__class__"] d.scope)
    (hb : d.body = [.Expr (.Call (.Attribute (.Call (.Name "super" p0) [] [] p1) "__init__" p2) [.Name fn p3] [] p4) p5, .Assign [.Attribute (.Name "self" q1) fn q2] (.Name fn q3) q4])
    (hs : d.scope.names.lookup ("super" : Str) = some .globalImplicit) (hp : (d.params.posonlyargs ++ d.params.args).head? = some ar) (har : ar.arg = "self") (htop : (P.main.scope.names.lookup ("super" : Str)).isSome = false)
    (hd1 : (fn == ("__debug__" : Str)) = false) (hd2 : (fn == ("__classdict__" : Str)) = false) (hline : (p2.endLine == p4.line) = true)
    (hbi : ∀ (cc : Addr) (kV doc pm : Value) (an : Option Addr) (cdv ct : Value) (us : List Value), us.length = (["self", fn] : List Str).length → bindArgs (PySem.W.fnX "__init__" d.qual d.params d.body d.scope [("__class__", cc)] .none kV doc pm an cdv ct) ⟨us, []⟩ = pure ((["self", fn] : List Str).zip us)) :
    XcAt P w K mg base d.name d.fs := by
  obtain ⟨c1, c⟩ := He.ba c
  obtain ⟨c2, c⟩ := He.ba c
  obtain ⟨c3, c⟩ := He.ba c
  obtain ⟨c4, c⟩ := He.ba c
  obtain ⟨c5, c⟩ := He.ba c
  obtain ⟨c6, c⟩ := He.ba c
  obtain ⟨c7, c⟩ := He.ba c
  obtain ⟨c8, c⟩ := He.ba c
  obtain ⟨c9, c⟩ := He.ba c
  obtain ⟨c10, c⟩ := He.ba c
  obtain ⟨c11, c12⟩ := He.ba c
  obtain ⟨oc, od, osl, cc, cda, vs, file, tf, occ, ocd, ccs, cl, cld, csl, kV, doc, pm, ct, an, k1, k2, k3, k4, k5, k6⟩ := codB_ok c8 e
  have no : ∀ f ∈ d.fs, PySem.W.findIn K (.ref (He.ga K d.name)) f = some none := fun f hf => He.eqO_ok (List.all_eq_true.mp c5 f hf)
  have oex := oexB_ok c3
  have IA : InitAt P K (He.ga K d.name) (initAd K d.name) [fn] "__init__" d.qual d.params d.body d.scope (PySem.W.fnX "__init__" d.qual d.params d.body d.scope [("__class__", cc)] .none kV doc pm an (.ref cda) ct) :=
    ⟨⟨oc, od, osl, cc, cda, vs, file, tf, occ, ocd, ccs, cl, cld, csl, .none, kV, doc, pm, ct, an, rfl, k1, k2, k3, k4, k5, k6⟩, He.eqO_ok c9, of_decide_eq_true c10, of_decide_eq_true c11, He.eqO_ok c12, oex, fun f hf => no f (by rw [hfs]; exact hf)⟩
  refine ⟨He.ga K d.name, initAd K d.name, PySem.W.fnX "__init__" d.qual d.params d.body d.scope [("__class__", cc)] .none kV doc pm an (.ref cda) ct, He.glo_ok X G c1, He.eqO_ok c1, oex, xfB_ok c4, no, He.eqO_ok c6, of_decide_eq_true c7, ?_, ?_⟩
  · rw [hfs]
    refine (inits (k := 0) IA S hb (He.free_ok X G c2) hs hp har htop hd1 hd2 hline).imp fun vs H Q E q => ?_
    obtain ⟨a, xs, rfl, hl, ha, q⟩ := q
    obtain ⟨x, rfl⟩ : ∃ x, xs = [x] := by
      match xs, hl with
      | [x], _ => exact ⟨x, rfl⟩
    exact ⟨a, x, rfl, ha, fun dd h1 h2 => q dd [(fn, x)] h1 h2 fun f => rfl⟩
  · rw [hfs]
    exact .all (hbi cc kV doc pm an (.ref cda) ct)
/-- the classes lead to different clauses -/
def apB (K : Fg) (cs : List Str) : Bool := cs.all fun c => cs.all fun c' => decide (PySem.W.exmOne K (.ref (He.ga K c)) (.ref (He.ga K c')) = some (decide (c = c')))
theorem apB_ok {K : Fg} {xcs : List (Str × List Str)} (h : apB K (xcs.map (·.1)) = true) (hg : ∀ c fs, (c, fs) ∈ xcs → (He.Fa.glo c).ok K = true) : Apart2 K xcs := fun c c' fs fs' a b h1 h2 e1 e2 => by
  have g1 := He.eqO_ok (hg c fs h1)
  have g2 := He.eqO_ok (hg c' fs' h2)
  rw [e1] at g1
  rw [e2] at g2
  have z := of_decide_eq_true (List.all_eq_true.mp (List.all_eq_true.mp h c (List.mem_map.mpr ⟨_, h1, rfl⟩)) c' (List.mem_map.mpr ⟨_, h2, rfl⟩))
  injection g1 with g1
  injection g1 with g1
  injection g1 with g1
  injection g2 with g2
  injection g2 with g2
  injection g2 with g2
  rw [g1, g2]
  exact z
end Bk
/-! E14: the top's facts, the law's end. -/
namespace Bk
open PySem PySem.Spec PyProof.Rows L2
/-- one check of the top, its defs, its classes of exceptions -/
abbrev AlX : Type := He.AlD × List IW
def obsB (fb : Fg → Bool) (fn : List He.DefD) (xc : List XcD) (K : Fg) : AlX := ((fb K && fn.all fun d => d.ok K, fn.map fun d => He.fnW K d.at_), xc.map fun d => initW K d.name)
def valB (fn : List He.DefD) (xc : List XcD) : AlX := (He.valD fn, xc.map XcD.val)
def SaysB (fb : Fg → Bool) (fn : List He.DefD) (xc : List XcD) (K : Fg) : Prop := obsB fb fn xc K = valB fn xc
/-- the addresses of what is no table -/
def noTb (g : Addr → Option Obj) (as : List Addr) : List Addr := as.filter fun a => match g a with
  | some ⟨.none, _, .fields _, _⟩ => false
  | some ⟨_, _, .func fd, _⟩ => fd.name == fd.qualname || !fd.closure.isEmpty
  | _ => true
def obsBG (n : Nat) (fb : Fg → Bool) (fn : List He.DefD) (xc : List XcD) (g : Addr → Option Obj) : AlX := obsB fb fn xc (He.frG g (noTb g (cStatics :: He.asD g n)))
def hookB (n : Nat) (fb : Fg → Bool) (fn : List He.DefD) (xc : List XcD) : PySem.W.Hook where
  α := AlX
  obs := fun s => obsBG n fb fn xc s.heap.get?
  val := fun _ => valB fn xc
  says := fun _ h => ∃ K : Fg, K.In h ∧ SaysB fb fn xc K
  of := fun _ _ e => ⟨_, He.frG_in, e⟩
  keeps := fun _ _ _ ⟨K, hK, c⟩ k => ⟨K, PySem.W.Frag.In.keeps hK k, c⟩
theorem obsBG_eq {n : Nat} {fb : Fg → Bool} {fn : List He.DefD} {xc : List XcD} {g : Addr → Option Obj} {s : Shared} (h : ∀ a, g a = s.heap.get? a) : obsBG n fb fn xc g = (hookB n fb fn xc).obs s := by
  have e : g = s.heap.get? := funext h
  rw [e] <;> rfl
theorem SaysB.fact {fb : Fg → Bool} {fn : List He.DefD} {xc : List XcD} {K : Fg} (c : SaysB fb fn xc K) : fb K = true := (He.ba (show (fb K && fn.all fun d => d.ok K) = true from congrArg (fun z : AlX => z.1.1) c)).1
theorem SaysB.def_ {fb : Fg → Bool} {fn : List He.DefD} {xc : List XcD} {K : Fg} (c : SaysB fb fn xc K) (i : Nat) {d : He.DefD} (h : fn[i]? = some d) : ∃ fd, FunD K d.name d.qual d.params d.body d.scope (d.dvs K) (d.kws K) (He.fAd K d.at_) fd := by
  have c2 := (He.ba (show (fb K && fn.all fun d => d.ok K) = true from congrArg (fun z : AlX => z.1.1) c)).2
  have e : fn.map (fun d => He.fnW K d.at_) = fn.map He.DefD.val := congrArg (fun z : AlX => z.1.2) c
  have e2 : (fn.map fun d => He.fnW K d.at_)[i]? = (fn.map He.DefD.val)[i]? := by rw [e]
  rw [List.getElem?_map, List.getElem?_map, h] at e2
  exact He.DefD.funD (Option.some.inj e2) (List.all_eq_true.mp c2 d (List.mem_of_getElem? h))
theorem SaysB.cls_ {fb : Fg → Bool} {fn : List He.DefD} {xc : List XcD} {K : Fg} (c : SaysB fb fn xc K) (i : Nat) {d : XcD} (h : xc[i]? = some d) : initW K d.name = d.val := by
  have e : xc.map (fun d => initW K d.name) = xc.map XcD.val := congrArg (fun z : AlX => z.2) c
  have e2 : (xc.map fun d => initW K d.name)[i]? = (xc.map XcD.val)[i]? := by rw [e]
  rw [List.getElem?_map, List.getElem?_map, h] at e2
  exact Option.some.inj e2
/-- the names that the top leaves free -/
def freeB (K : Fg) : Bool := blts.all fun x => (He.Fa.free x).ok K
theorem freeB_ok {K : Fg} {h : Heap} {mg : Str → Option Value} (X : K.In h) (G : h.Ns mainGlobals mg) (c : freeB K = true) : Fresh mg := fun x hx => He.free_ok X G (List.all_eq_true.mp c x hx)
/-- the names that stand for objects -/
def gloB (xs : List Str) (K : Fg) : Bool := xs.all fun x => (He.Fa.glo x).ok K
theorem gloB_ns {xs : List Str} {K : Fg} (c : gloB xs K = true) (x : Str) (hx : x ∈ xs) : PySem.W.nsIn K mainGlobals x = some (some (.ref (He.ga K x))) := He.eqO_ok (List.all_eq_true.mp c x hx)
theorem gloB_ok {xs : List Str} {K : Fg} {h : Heap} {mg : Str → Option Value} (X : K.In h) (G : h.Ns mainGlobals mg) (c : gloB xs K = true) (x : Str) (hx : x ∈ xs) : mg x = some (.ref (He.ga K x)) := He.glo_ok X G (List.all_eq_true.mp c x hx)
/-- K's functions are the defs of these names, each with its table -/
def fnNamed (xs : List Str) (K : Fg) : Bool := K.all fun p => match p.2.data with
  | .func fd => !(fd.globals == mainGlobals) || (!fd.closure.isEmpty || xs.any fun x => match PySem.W.nsIn K mainGlobals x with
    | some (some (.ref f)) => f == p.1
    | _ => false)
  | _ => true
def tabB (xs : List Str) (K : Fg) : Bool := PySem.W.noTabs K && fnNamed xs K && xs.all fun x => (PySem.W.tabIn K x).isSome
/-- the tables -/
def tabsOf (xs : List Str) (K : Fg) : List (Addr × Addr) := xs.filterMap (PySem.W.tabIn K)
theorem tabIn_ok {K : Fg} {x : Str} {c P : Addr} (h : PySem.W.tabIn K x = some (c, P)) : ∃ (f : Addr) (o : Obj) (fd : FuncData) (o2 : Obj) (vs : Array Value), PySem.W.nsIn K mainGlobals x = some (some (.ref f)) ∧ K.lookup f = some o ∧ o.data = .func fd ∧ fd.code = .ref c ∧ K.lookup c = some o2 ∧ o2.data = .fields vs ∧ vs[11]? = some (.ref P) := by
  unfold PySem.W.tabIn at h
  split at h
  · rename_i f hf
    split at h
    · rename_i hfo
      split at h
      · rename_i c2 hc
        split at h
        · rename_i hco
          split at h
          · rename_i P2 hv
            cases h
            exact ⟨f, _, _, _, _, hf, hfo, rfl, hc, hco, rfl, hv⟩
          · cases h
        · cases h
      · cases h
    · cases h
  · cases h
theorem named {xs : List Str} {K : Fg} (h : fnNamed xs K = true) {f : Addr} {o : Obj} {fd : FuncData} (hf : K.lookup f = some o) (hd : o.data = .func fd) (hg : fd.globals = mainGlobals) (hcl : fd.closure = []) : ∃ x ∈ xs, PySem.W.nsIn K mainGlobals x = some (some (.ref f)) := by
  have q := List.all_eq_true.mp h (f, o) (PySem.W.mem_of_lookupK hf)
  have q2 : (match o.data with
    | .func fd => !(fd.globals == mainGlobals) || (!fd.closure.isEmpty || xs.any fun x => match PySem.W.nsIn K mainGlobals x with
      | some (some (.ref f')) => f' == f
      | _ => false)
    | _ => true) = true := q
  rw [hd] at q2
  have e0 : (fd.globals == mainGlobals) = true := by rw [hg]; exact beq_self_eq_true _
  have e3 : fd.closure.isEmpty = true := by rw [hcl]; rfl
  simp only [e0, e3, Bool.not_true, Bool.false_or] at q2
  obtain ⟨x, hx, e⟩ := List.any_eq_true.mp q2
  refine ⟨x, hx, ?_⟩
  split at e
  · rename_i f' hn
    rw [hn, eq_of_beq (show (f' == f) = true from e)]
  · exact absurd e Bool.false_ne_true
/-- what a def's code object and its table are -/
theorem tk_of {xs : List Str} {K : Fg} (h : tabB xs K = true) {f : Addr} {o : Obj} {fd : FuncData} (hf : K.lookup f = some o) (hd : o.data = .func fd) (hg : fd.globals = mainGlobals) (hcl : fd.closure = []) : ∃ x ∈ xs, ∃ c P, PySem.W.tabIn K x = some (c, P) ∧ fd.code = .ref c ∧ TK K c P := by
  unfold tabB at h
  simp only [Bool.and_eq_true] at h
  obtain ⟨x, hx, hn⟩ := named h.1.2 hf hd hg hcl
  have hs := List.all_eq_true.mp h.2 x hx
  obtain ⟨⟨c, P⟩, ht⟩ := Option.isSome_iff_exists.mp hs
  obtain ⟨f', o', fd', o2, vs, e1, e2, e3, e4, e5, e6, e7⟩ := tabIn_ok ht
  rw [hn] at e1
  cases e1
  rw [hf] at e2
  cases e2
  rw [hd] at e3
  cases e3
  exact ⟨x, hx, c, P, ht, e4, _, _, _, _, _, hf, hd, hg, hcl, e4, e5, e6, e7⟩
theorem tk_mem {xs : List Str} {K : Fg} (h : tabB xs K = true) {c P : Addr} (t : TK K c P) : (c, P) ∈ tabsOf xs K := by
  obtain ⟨f, o, fd, o2, vs, e1, e2, eg, ec, e3, e4, e5, e6⟩ := t
  obtain ⟨x, hx, c', P', ht, h1, f', o', fd', o2', vs', k1, k2, _, _, k3, k4, k5, k6⟩ := tk_of h e1 e2 eg ec
  rw [e3] at h1
  cases h1
  rw [e4] at k4
  cases k4
  rw [e5] at k5
  cases k5
  rw [e6] at k6
  cases k6
  exact List.mem_filterMap.mpr ⟨x, hx, ht⟩
/-- each def's code object with its table -/
theorem cdAt_of {xs : List Str} {K : Fg} {mg : Str → Option Value} {base : Heap} (h : tabB xs K = true) (hb : ∀ c P, TK K c P → GxR.TabB base mg c P) (f : Addr) : CdAt K mg base f := ⟨fun o fd e1 e2 eg ec => by
  obtain ⟨x, hx, c, P, _, h1, h2⟩ := tk_of h e1 e2 eg ec
  exact ⟨c, P, h1, h2, hb c P h2⟩⟩
theorem lawEnd {l : PySem.W.OpenLaw} {n k : Nat} {q : Program} {loose : List Str} {XP : (Str → Option Value) → Heap → Prop} {YP : World → Heap → Prop} {d : DefRec} {x : Str} {F : List D → Rs D} {xs : List Str}
    (hn : l.most = some n) (hn2 : n ≤ sizeLine) (hdf : d.params.defaults = []) (hr : Room k callerA) (hxs : xs.all (fun x => ((recsOf q).find? fun e => e.name == x).isSome) = true)
    (hF : ∀ ns : List Int, ns.length ≤ n → F [.list (ns.map fun i => .int i)] = .ok (.bool true))
    (H : ∀ (w : World) (mg : Str → Option Value) (fa : Addr) (h : Heap), YP w h → h.Ns mainGlobals mg → mg d.name = some (.ref fa) →
      ∃ (K : Fg) (fd : FuncData), K.In h ∧ tabB xs K = true ∧ (∀ (s : Shared) (u : Value), BindsTo s fd ⟨[u], []⟩ [(x, u)]) ∧ ∀ base : Heap, K.In base → base.Ns mainGlobals mg → (∀ c P, TK K c P → GxR.TabB base mg c P) → FnOk l.prog w K mg base CX0 k fa fd [x] (spD K 1 F)) :
    PySem.W.WalkO q loose XP YP l.row.toRowW d [] (fun f vs => PySem.call f vs) := by
  refine Att.attach_callB hn hdf fun w s₀ s₁ mg mb fa o pm cd doc a vs ns G Y ho hd hcd hmg hobj hints hlen hbits hg => ?_
  obtain ⟨K, fd, KX, ht, h2, h3⟩ := H w mg fa _ Y G.T.g hmg
  have one : ∀ p ∈ tabsOf xs K, PySem.W.CodeHd s₁.heap p.1 p.2 ∧ s₁.heap.get? p.2 = some { cls := .none, data := .fields #[] } := fun p hp => by
    obtain ⟨y, hy, hp⟩ := List.mem_filterMap.mp hp
    obtain ⟨dd, hdd⟩ := Option.isSome_iff_exists.mp (List.all_eq_true.mp hxs y hy)
    exact PySem.W.tab_of G.T KX hdd (show PySem.W.tabIn K y = some (p.1, p.2) from hp)
  have nK : ∀ p ∈ tabsOf xs K, K.lookup p.2 = none := fun p hp => by
    cases z : K.lookup p.2 with
    | none => rfl
    | some u =>
      have e1 := KX _ _ z
      rw [(one p hp).2] at e1
      cases e1
      unfold tabB at ht
      simp only [Bool.and_eq_true] at ht
      have q2 := List.all_eq_true.mp ht.1.1 _ (PySem.W.mem_of_lookupK z)
      exact absurd q2 (by simp)
  refine LamX.law_callTs (cs := tabsOf xs K) (k := k) (sp := spD K 1 F) KX G.T.g G.T.b G.T.builtins G.T.nolimit hg (fun p hp => (one p hp).2) nK (fun p hp => (one p hp).1) G.T.bmain hobj hints (Nat.le_trans hlen hn2) hr
    (fun base hb hN hT => h3 base hb hN fun c P t => ⟨(hT _ (tk_mem ht t)).code, (hT _ (tk_mem ht t)).bm, (hT _ (tk_mem ht t)).gP⟩) h2 (fun Hh hH hS => ?_) fun H e s' => id
  refine ⟨rfl, fun c P t => ⟨#[], hH _ (tk_mem ht t), trivial⟩, fun _ => False, [.list (ns.map fun i => .int i)], .bool true, fun _ z => z.elim, .cons ?_ .nil, hF ns hlen, fun v H' _ r => by cases r; rfl⟩
  have e : Same Hh (cutH (fun _ => False) Hh) := fun b o z => .inl (cutH_some.mpr ⟨fun q => q, z⟩)
  refine .lst (e.seq hS) ?_
  clear hlen hS hints hobj hbits
  induction ns with
  | nil => exact .nil
  | cons i is ih => exact .cons (.int i) ih
end Bk
/-! PL: laws of the evaluator. -/
namespace Bk
open PySem PySem.Spec PyProof.Rows L2
/-! evaluation -/
theorem beqT (b : Bool) : (b == true) = b := by cases b <;> rfl
theorem beqF (b : Bool) : (b == false) = !b := by cases b <;> rfl
theorem n_10 : Int.natAbs 10 = 10 := rfl
def Ot.out : Ot → Rs D
  | .nx _ => .ok .none
  | .rt d => .ok d
  | .er c ys _ => .er c ys
  | _ => .st
theorem out_er (c : Str) (xs : List (Str × D)) (e : Vn) : (Ot.er c xs e).out = .er c xs := rfl
theorem r_x (C : Cn) {a : Xp} (e : Vn) : evr C (.x a) e = (ev C a e).calm := rfl
theorem r_call (C : Cn) {j : Nat} {as : Xps} (e : Vn) : evr C (.call j as) e = (evs C as e).calm.bind fun xs => C.fn j xs := rfl
theorem r_cv (C : Cn) {i : Nat} {cs : List (Str × Nat)} {as : Xps} (e : Vn) : evr C (.cv i cs as) e = (evs C as e).calm.bind fun xs => (vl (gt e i)).bind fun d => pickC C cs d xs := rfl
theorem r_ife (C : Cn) {c : Xp} {a b : Xr} (e : Vn) : evr C (.ife c a b) e = ((ev C c e).bind tru).calm.bind fun k => if k then evr C a e else evr C b e := rfl
theorem pick_c (C : Cn) {x : Str} {j : Nat} {r : List (Str × Nat)} {d : D} {xs : List D} : pickC C ((x, j) :: r) d xs = if isFnD x d then C.fn j xs else pickC C r d xs := rfl
theorem isFn_fn (x y : Str) : isFnD x (fnD y) = decide (x = y) := rfl
theorem h_fld {fs : List (Str × D)} {f : Str} (e : Vn) : evH fs (.fld f) e = fldH fs f := rfl
theorem h_var {fs : List (Str × D)} {i : Nat} (e : Vn) : evH fs (.var i) e = vl (gt e i) := rfl
theorem h_non {fs : List (Str × D)} (e : Vn) : evH fs .non e = .ok .none := rfl
theorem h_bl {fs : List (Str × D)} {b : Bool} (e : Vn) : evH fs (.bl b) e = .ok (.bool b) := rfl
theorem h_int {fs : List (Str × D)} {b : Int} (e : Vn) : evH fs (.int b) e = .ok (.int b) := rfl
theorem h_str {fs : List (Str × D)} {b : Str} (e : Vn) : evH fs (.str b) e = .ok (.str b) := rfl
theorem h_cmp {fs : List (Str × D)} {op : CmpOp} {a b : Hx} (e : Vn) : evH fs (.cmp op a b) e = (evH fs a e).bind fun x => (evH fs b e).bind fun y => cmpH op x y := rfl
theorem h_bo {fs : List (Str × D)} {op : BoolOp} {a b : Hx} (e : Vn) : evH fs (.bo op a b) e = (evH fs a e).bind fun x => (tru x).bind fun k => if k == andB op then evH fs b e else .ok x := rfl
theorem h_nt {fs : List (Str × D)} {a : Hx} (e : Vn) : evH fs (.nt a) e = (evH fs a e).bind fun x => (tru x).bind fun c => .ok (.bool (!c)) := rfl
theorem h_ife {fs : List (Str × D)} {c a b : Hx} (e : Vn) : evH fs (.ife c a b) e = (evH fs c e).bind fun x => (tru x).bind fun k => if k then evH fs a e else evH fs b e := rfl
theorem h_ret {fs : List (Str × D)} {a : Hx} (e : Vn) : exH fs (.ret a) e = (evH fs a e).to e .rt := rfl
theorem h_ifr {fs : List (Str × D)} {c a : Hx} (e : Vn) : exH fs (.ifr c a) e = ((evH fs c e).bind tru).to e fun k => if k then (evH fs a e).to e .rt else .nx e := rfl
theorem fld_1 (f : Str) (d : D) : fldH [(f, d)] f = .ok d := by
  unfold fldH
  simp [List.lookup]
theorem cmpH_ss (op : CmpOp) (x y : Str) : cmpH op (.str x) (.str y) = (cmpD op (.str x) (.str y)).bind fun c => .ok (.bool c) := rfl
theorem cmpH_ii (op : CmpOp) (x y : Int) : cmpH op (.int x) (.int y) = (cmpD op (.int x) (.int y)).bind fun c => .ok (.bool c) := rfl
theorem par_2 (i j : Nat) (x y : D) (e : Vn) : parD [i, j] [x, y] e = .nx (pt (pt e i (some (.v x))) j (some (.v y))) := rfl
theorem par_3 (i j l : Nat) (x y z : D) (e : Vn) : parD [i, j, l] [x, y, z] e = .nx (pt (pt (pt e i (some (.v x))) j (some (.v y))) l (some (.v z))) := rfl
theorem f0_s (x : Str) : flat0 (.str x) = true := rfl
theorem f0_i (x : Int) : flat0 (.int x) = true := rfl
theorem fl_all1 (x : D) : [x].all flat0 = flat0 x := by simp
theorem zip_1 (f : Str) (x : D) : [f].zip [x] = [(f, x)] := rfl
theorem out_nx (e : Vn) : (Ot.nx e).out = .ok .none := rfl
theorem out_rt (d : D) : (Ot.rt d).out = .ok d := rfl
theorem run_eq {C : Cn} {n : Nat} {body : Sms} {xs : List D} : run C n body xs = if xs.length ≤ n then (exs C body (xs.map (fun d => some (Sl.v d)) ++ List.replicate (n - xs.length) none)).out else .st := by
  unfold run
  split
  · generalize exs C body _ = o
    cases o <;> rfl
  · rfl
theorem b_addi (i j : Int) : binD .Add (.int i) (.int j) = .ok (.int (i + j)) := rfl
theorem b_adds (x y : Str) : binD .Add (.str x) (.str y) = if x.length + y.length ≤ 16777216 then .ok (.str (x ++ y)) else .st := rfl
theorem b_addl (x y : List D) : binD .Add (.list x) (.list y) = if x.length + y.length ≤ 16777216 then .ok (.list (x ++ y)) else .st := rfl
theorem b_addt (x y : List D) : binD .Add (.tuple x) (.tuple y) = if x.length + y.length ≤ 16777216 then .ok (.tuple (x ++ y)) else .st := rfl
theorem b_sub (i j : Int) : binD .Sub (.int i) (.int j) = .ok (.int (i - j)) := rfl
theorem b_mul (i j : Int) : binD .Mult (.int i) (.int j) = if (decide (-18446744073709551616 < i) && decide (i < 18446744073709551616)) || (decide (-18446744073709551616 < j) && decide (j < 18446744073709551616)) then .ok (.int (i * j)) else .st := rfl
theorem b_div (i j : Int) : binD .FloorDiv (.int i) (.int j) = if decide (0 < j) && decide (j < 1073741824) then .ok (.int (i / j)) else .st := rfl
theorem b_mod (i j : Int) : binD .Mod (.int i) (.int j) = if 0 < j then .ok (.int (i % j)) else .st := rfl
theorem b_pow (i j : Int) : binD .Pow (.int i) (.int j) = if decide (0 ≤ j) && decide (j ≤ 1000000) && decide (i.natAbs < 18446744073709551616) then .ok (.int (i ^ j.toNat)) else .st := rfl
theorem c_eq (a b : D) : cmpD .Eq a b = eqD a b := rfl
theorem c_ne (a b : D) : cmpD .NotEq a b = (eqD a b).bind fun c => .ok (!c) := rfl
theorem c_lt (i j : Int) : cmpD .Lt (.int i) (.int j) = .ok (decide (i < j)) := rfl
theorem c_le (i j : Int) : cmpD .LtE (.int i) (.int j) = .ok (decide (i ≤ j)) := rfl
theorem c_gt (i j : Int) : cmpD .Gt (.int i) (.int j) = .ok (decide (j < i)) := rfl
theorem c_ge (i j : Int) : cmpD .GtE (.int i) (.int j) = .ok (decide (j ≤ i)) := rfl
theorem c_is0 : cmpD .Is .none .none = .ok true := rfl
theorem c_isi (i : Int) : cmpD .Is (.int i) .none = .ok false := rfl
theorem c_iss (i : Str) : cmpD .Is (.str i) .none = .ok false := rfl
theorem c_isl (x : List D) : cmpD .Is (.list x) .none = .ok false := rfl
theorem c_ist (x : List D) : cmpD .Is (.tuple x) .none = .ok false := rfl
theorem c_isb (x : Bool) : cmpD .Is (.bool x) .none = .ok false := rfl
theorem c_no0 : cmpD .IsNot .none .none = .ok false := rfl
theorem c_noi (i : Int) : cmpD .IsNot (.int i) .none = .ok true := rfl
theorem c_nos (i : Str) : cmpD .IsNot (.str i) .none = .ok true := rfl
theorem c_nol (x : List D) : cmpD .IsNot (.list x) .none = .ok true := rfl
theorem c_not (x : List D) : cmpD .IsNot (.tuple x) .none = .ok true := rfl
theorem c_nob (x : Bool) : cmpD .IsNot (.bool x) .none = .ok true := rfl
theorem c_in (a b : D) : cmpD .In a b = inD a b := rfl
theorem c_ni (a b : D) : cmpD .NotIn a b = (inD a b).bind fun c => .ok (!c) := rfl
theorem u_n : tru .none = .ok false := rfl
theorem u_b (b : Bool) : tru (.bool b) = .ok b := rfl
theorem u_i (i : Int) : tru (.int i) = .ok (i != 0) := rfl
theorem u_s (x : Str) : tru (.str x) = if x.length ≤ 16777216 then .ok ((x.length : Int) != 0) else .st := rfl
theorem u_l (x : List D) : tru (.list x) = .ok (!x.isEmpty) := rfl
theorem u_t (x : List D) : tru (.tuple x) = .ok (!x.isEmpty) := rfl
theorem f_lenl (x : List D) : biD .len [.list x] = .ok (.int x.length) := rfl
theorem f_lent (x : List D) : biD .len [.tuple x] = .ok (.int x.length) := rfl
theorem f_lens (x : Str) : biD .len [.str x] = if x.length ≤ 16777216 then .ok (.int x.length) else .st := rfl
theorem f_ll (x : List D) : biD .list [.list x] = .ok (.list x) := rfl
theorem f_lt (x : List D) : biD .list [.tuple x] = .ok (.list x) := rfl
theorem f_tl (x : List D) : biD .tuple [.list x] = .ok (.tuple x) := rfl
theorem f_tt (x : List D) : biD .tuple [.tuple x] = .ok (.tuple x) := rfl
theorem f_int (i : Int) : biD .int [.int i] = .ok (.int i) := rfl
theorem f_ints (a : Str) : biD .int [.str a] = match PySem.intText? a with
    | some n => if a.length ≤ 640 then .ok (.int n) else .st
    | none => .st := rfl
theorem l_s (z : Str) (l h : Option Int) : slD (.str z) l h = if z.length ≤ 16777216 then .ok (.str (cutS z l h)) else .st := rfl
theorem c_les (i j : Str) : cmpD .LtE (.str i) (.str j) = .ok (!decide (j.cps.toList < i.cps.toList)) := rfl
theorem g_ai (i j : Int) : augD .Add (.int i) (.int j) = .ok (.int (i + j)) := rfl
theorem f_bool (i : Bool) : biD .bool [.bool i] = .ok (.bool i) := rfl
theorem f_str (i : Int) : biD .str [.int i] = if i.natAbs.log2 < 1920 then .ok (.str (toString i)) else .st := rfl
theorem f_max2 (i j : Int) : biD .max2 [.int i, .int j] = .ok (.int (if j > i then j else i)) := rfl
theorem f_min2 (i j : Int) : biD .min2 [.int i, .int j] = .ok (.int (if j < i then j else i)) := rfl
theorem f_max (x : List D) : biD .max [.list x] = (intsD x).bind lmax := rfl
theorem f_min (x : List D) : biD .min [.list x] = minA x := rfl
theorem min_ints : ∀ is : List Int, minA (is.map fun i => .int i) = lmin is
  | [] => rfl
  | i :: is => by
    show (intsD (.int i :: is.map fun i => .int i)).bind lmin = _
    have h : ∀ is : List Int, intsD (is.map fun i => (.int i : D)) = .ok is := fun is => by
      induction is with
      | nil => rfl
      | cons a r ih => rw [List.map_cons, intsD, ih]; rfl
    have := h (i :: is)
    rw [List.map_cons] at this
    rw [this]
    rfl
theorem min_t (a x : List D) : minA (.tuple a :: x) = minDD (.tuple a) x := rfl
theorem f_sum (x : List D) : biD .sum [.list x] = (intsD x).bind fun is => .ok (.int is.sum) := rfl
theorem f_sumt (x : List D) : biD .sum [.tuple x] = (intsD x).bind fun is => .ok (.int is.sum) := rfl
theorem z_ll (x y : List D) : zipS (.list x) (.list y) = .ok (x, y) := rfl
theorem z_lt (x y : List D) : zipS (.list x) (.tuple y) = .ok (x, y) := rfl
theorem z_tl (x y : List D) : zipS (.tuple x) (.list y) = .ok (x, y) := rfl
theorem z_tt (x y : List D) : zipS (.tuple x) (.tuple y) = .ok (x, y) := rfl
theorem s_l (x : List D) : seqD (.list x) = .ok x := rfl
theorem s_t (x : List D) : seqD (.tuple x) = .ok x := rfl
theorem x_l (x : List D) (i : Int) : ixD (.list x) (.int i) = match at' x i with | some x => .ok x | none => .st := rfl
theorem x_t (x : List D) (i : Int) : ixD (.tuple x) (.int i) = match at' x i with | some x => .ok x | none => .st := rfl
theorem l_l (x : List D) (l h : Option Int) : slD (.list x) l h = .ok (.list (cut x l h)) := rfl
theorem l_t (x : List D) (l h : Option Int) : slD (.tuple x) l h = .ok (.tuple (cut x l h)) := rfl
theorem a_l (x : D) (xs : List D) : appD x (.list xs) = if xs.length < 16777216 then .ok (.list (xs ++ [x])) else .st := rfl
theorem e_l (x y : List D) : extD (.list y) (.list x) = if x.length + y.length ≤ 16777216 then .ok (.list (x ++ y)) else .st := rfl
theorem p_l (xs : List D) (i : Int) (x : D) : putD (.int i) x (.list xs) = if 0 ≤ i then (if i < xs.length then .ok (.list (xs.set i.toNat x)) else .st) else (if 0 ≤ i + xs.length then .ok (.list (xs.set (i + xs.length).toNat x)) else .st) := rfl
theorem j_l (a : Str) (x : List D) : mtD .join (.str a) (.list x) = joinD a x := rfl
theorem j_t (a : Str) (x : List D) : mtD .join (.str a) (.tuple x) = joinD a x := rfl
theorem m_x (mn : Bool) (x : List D) (d : D) : mxdD mn (.list x) d = mxA mn x d := rfl
theorem mx_ints (mn : Bool) (d : D) : ∀ is : List Int, mxA mn (is.map fun i => .int i) d = bestD mn is d
  | [] => rfl
  | i :: is => by
    show (intsD (.int i :: is.map fun i => .int i)).bind (fun is => bestD mn is d) = _
    have h : ∀ is : List Int, intsD (is.map fun i => (.int i : D)) = .ok is := fun is => by
      induction is with
      | nil => rfl
      | cons a r ih => rw [List.map_cons, intsD, ih]; rfl
    have := h (i :: is)
    rw [List.map_cons] at this
    rw [this]
    rfl
theorem mx_t (a x : List D) (d : D) : mxA true (.tuple a :: x) d = minDD (.tuple a) x := rfl
theorem k_mn (f : List D → Rs D) (x : D) (xs : List D) : mnkD f (.list (x :: xs)) = (f [x]).bind fun k => mnkR f x k xs := rfl
theorem c_ltt (i j : List D) : cmpD .Lt (.tuple i) (.tuple j) = lessD (.tuple i) (.tuple j) := rfl
theorem nd_n : nd .none = true := rfl
theorem nd_b (b : Bool) : nd (.bool b) = true := rfl
theorem nd_i (b : Int) : nd (.int b) = true := rfl
theorem nd_s (b : Str) : nd (.str b) = true := rfl
theorem nd_l (b : List D) : nd (.list b) = true := rfl
theorem nd_t (b : List D) : nd (.tuple b) = true := rfl
theorem nd_0 : ([] : List D).all nd = true := rfl
theorem nd_c (d : D) (ds : List D) : (d :: ds).all nd = (nd d && ds.all nd) := rfl
theorem isn_i (i : Int) (t : Ty) : isnD (.int i) t = (match t with | .int => true | _ => false) := by cases t <;> rfl
theorem isn_b (i : Bool) (t : Ty) : isnD (.bool i) t = (match t with | .int => true | .bool => true | _ => false) := by cases t <;> rfl
theorem isn_s (i : Str) (t : Ty) : isnD (.str i) t = (match t with | .str => true | _ => false) := by cases t <;> rfl
theorem isn_l (i : List D) (t : Ty) : isnD (.list i) t = (match t with | .list => true | _ => false) := by cases t <;> rfl
theorem isn_t (i : List D) (t : Ty) : isnD (.tuple i) t = (match t with | .tuple => true | _ => false) := by cases t <;> rfl
theorem isn_n (t : Ty) : isnD .none t = false := by cases t <;> rfl
theorem evb1 (C : Cn) (op : BoolOp) (a : Xp) (e : Vn) : evb C op (.cons a .nil) e = ev C a e := by simp only [evb]
theorem evb2 (C : Cn) (op : BoolOp) (a b : Xp) (r : Xps) (e : Vn) : evb C op (.cons a (.cons b r)) e = (ev C a e).bind fun x => (tru x).bind fun k => if k == andB op then evb C op (.cons b r) e else .ok x := by simp only [evb]
theorem evc0 (C : Cn) (e : Vn) : evc C .nil e = .ok true := by simp only [evc]
theorem evc1 (C : Cn) (a : Xp) (e : Vn) : evc C (.cons a .nil) e = (ev C a e).bind tru := by simp only [evc]
theorem andB1 : andB .And = true := rfl
theorem andB2 : andB .Or = false := rfl
theorem fl_n : flatD .none = .ok .none := by simp [flatD, flatB]
theorem fl_b (b : Bool) : flatD (.bool b) = .ok (.bool b) := by simp [flatD, flatB]
theorem fl_i (b : Int) : flatD (.int b) = .ok (.int b) := by simp [flatD, flatB]
theorem fl_s (b : Str) : flatD (.str b) = .ok (.str b) := by simp [flatD, flatB]
theorem fl_t (xs : List D) : flatD (.tuple xs) = if flatBs xs then .ok (.tuple xs) else .st := by
  unfold flatD
  rw [flatB]
theorem fb_0 : flatBs [] = true := by simp [flatBs]
theorem fb_i (i : Int) (xs : List D) : flatBs (.int i :: xs) = flatBs xs := by simp [flatBs, flatB]
theorem fb_b (i : Bool) (xs : List D) : flatBs (.bool i :: xs) = flatBs xs := by simp [flatBs, flatB]
theorem fb_s (i : Str) (xs : List D) : flatBs (.str i :: xs) = flatBs xs := by simp [flatBs, flatB]
theorem b_rep (xs : List D) (k : Int) : binD .Mult (.tuple xs) (.int k) = if !xs.isEmpty && decide (1 ≤ k) && decide (k ≤ 1000) && decide (xs.length ≤ 1000) then .ok (.tuple (List.replicate k.toNat xs).flatten) else .st := rfl
theorem g_nm (i : Nat) (d : D) (e : Vn) : asg (.nm i) d e = .ok (pt e i (some (.v d))) := by simp only [asg]
theorem g_tp (ts : Tgs) (ds : List D) (e : Vn) : asg (.tp ts) (.tuple ds) e = asgs ts ds e := by simp only [asg]
theorem g_n (e : Vn) : asgs .nil [] e = .ok e := by simp only [asgs]
theorem g_c (t : Tg) (r : Tgs) (d : D) (ds : List D) (e : Vn) : asgs (.cons t r) (d :: ds) e = (asg t d e).bind fun e' => asgs r ds e' := by simp only [asgs]
/-! equations -/
def txD : D → Rs (List D)
  | .str z => if z.length ≤ 16777216 then .ok (z.cps.toList.map fun c => .str ⟨#[c]⟩) else .st
  | _ => .st
theorem tx_s (z : Str) : txD (.str z) = if z.length ≤ 16777216 then .ok (z.cps.toList.map fun c => .str ⟨#[c]⟩) else .st := rfl
theorem q_ev0 (C : Cn) {i} (e : Vn) : ev C (.var i) e = vl (gt e i) := by simp only [ev]
theorem q_ev1 (C : Cn) {i} (e : Vn) : ev C (.pk i) e = ow (gt e i) := by simp only [ev]
theorem q_ev2 (C : Cn)  (e : Vn) : ev C .non e = .ok .none := by simp only [ev]
theorem q_ev3 (C : Cn) {b} (e : Vn) : ev C (.bl b) e = .ok (.bool b) := by simp only [ev]
theorem q_ev4 (C : Cn) {i} (e : Vn) : ev C (.int i) e = .ok (.int i) := by simp only [ev]
theorem q_ev5 (C : Cn) {x} (e : Vn) : ev C (.str x) e = .ok (.str x) := by simp only [ev]
theorem q_ev6 (C : Cn) {j} (e : Vn) : ev C (.glo j) e = C.gl j := by simp only [ev]
theorem q_ev7 (C : Cn) {op} {a} {b} (e : Vn) : ev C (.bin op a b) e = (ev C a e).bind fun x => (ev C b e).bind fun y => binD op x y := by simp only [ev]
theorem q_ev8 (C : Cn) {a} (e : Vn) : ev C (.neg a) e = (ev C a e).bind fun x => (asInt x).bind fun i => .ok (.int (-i)) := by simp only [ev]
theorem q_ev9 (C : Cn) {a} (e : Vn) : ev C (.nt a) e = (ev C a e).bind fun x => (tru x).bind fun c => .ok (.bool (!c)) := by simp only [ev]
theorem q_ev10 (C : Cn) {op} {as} (e : Vn) : ev C (.bo op as) e = evb C op as e := by simp only [ev]
theorem q_ev11 (C : Cn) {c} {a} {b} (e : Vn) : ev C (.ife c a b) e = (ev C c e).bind fun x => (tru x).bind fun k => if k then ev C a e else ev C b e := by simp only [ev]
theorem q_ev12 (C : Cn) {op} {a} {b} (e : Vn) : ev C (.cmp op a b) e = (ev C a e).bind fun x => (ev C b e).bind fun y => (cmpD op x y).bind fun c => .ok (.bool c) := by simp only [ev]
theorem q_ev13 (C : Cn) {op} {op2} {a} {b} {c} (e : Vn) : ev C (.cmp2 op op2 a b c) e = (ev C a e).bind fun x => (ev C b e).bind fun y => (cmpD op x y).bind fun k =>
      if k then (ev C c e).bind fun z => (cmpD op2 y z).bind fun k2 => .ok (.bool k2) else .ok (.bool false) := by simp only [ev]
theorem q_ev14 (C : Cn) {as} (e : Vn) : ev C (.tup as) e = (evs C as e).bind fun xs => .ok (.tuple xs) := by simp only [ev]
theorem q_ev15 (C : Cn) {as} (e : Vn) : ev C (.lst as) e = (evs C as e).bind fun xs => .ok (.list xs) := by simp only [ev]
theorem q_ev16 (C : Cn) {a} {b} (e : Vn) : ev C (.ix a b) e = (ev C a e).bind fun x => (ev C b e).bind fun y => ixD x y := by simp only [ev]
theorem q_ev17 (C : Cn) {a} {lo} {hi} (e : Vn) : ev C (.sl a lo hi) e = (ev C a e).bind fun x => (evo C lo e).bind fun l => (evo C hi e).bind fun h => slD x l h := by simp only [ev]
theorem q_ev18 (C : Cn) {a} (e : Vn) : ev C (.rev a) e = (ev C a e).bind fun x => revD x := by simp only [ev]
theorem q_ev19 (C : Cn) {j} {as} (e : Vn) : ev C (.call j as) e = (evs C as e).bind fun xs => C.fn j xs := by simp only [ev]
theorem q_ev20 (C : Cn) {j} {as} (e : Vn) : ev C (.callL j as) e = (evs C as e).bind fun xs => if xs.all nd then (C.fn j xs).bind flatD else .st := by simp only [ev]
theorem q_ev21 (C : Cn) {f} {as} (e : Vn) : ev C (.bi f as) e = (evs C as e).bind fun xs => biD f xs := by simp only [ev]
theorem q_ev22 (C : Cn)  (e : Vn) : ev C .bad e = .st := by simp only [ev]
theorem q_ev23 (C : Cn) {t} (e : Vn) : ev C (.dnew t) e = .ok (.dict (if t then [tagD] else [])) := by simp only [ev]
theorem q_ev24 (C : Cn) {ks} {as} (e : Vn) : ev C (.ddis ks as) e = (evs C as e).bind fun xs => if ks.length = xs.length ∧ ks.length ≤ 15 then .ok (.dict (dBuild ks xs [])) else .st := by simp only [ev]
theorem q_ev25 (C : Cn) {a} {k} (e : Vn) : ev C (.dix a k) e = (ev C a e).bind fun x => (ev C k e).bind fun y => dixD x y := by simp only [ev]
theorem q_ev26 (C : Cn) {neg} {k} {a} (e : Vn) : ev C (.din neg k a) e = (ev C k e).bind fun y => (ev C a e).bind fun x => dinD neg y x := by simp only [ev]
theorem q_ev27 (C : Cn) {mn} {a} {d} (e : Vn) : ev C (.mxd mn a d) e = (ev C a e).bind fun x => (ev C d e).bind fun z => mxdD mn x z := by simp only [ev]
theorem q_ev28 (C : Cn) {j} {a} (e : Vn) : ev C (.mnk j a) e = (ev C a e).bind fun x => mnkD (C.fn j) x := by simp only [ev]
theorem q_ev29 (C : Cn) {al} {el} {t} {w} {own} (e : Vn) : ev C (.qa al el t w own) e = if own.any (fun i => isOwn (gt e i)) then .st else (evw C w e).bind fun xs =>
      ((qaR al (fun x => (asg t x (kil own e)).bind fun e2 => (ev C el e2).bind asBool) xs).calm).bind fun b => .ok (.bool b) := by simp only [ev]
theorem q_ev30 (C : Cn) {m} {o} {a} (e : Vn) : ev C (.mt1 m o a) e = (ev C o e).bind fun x => (ev C a e).bind fun y => mtD m x y := by simp only [ev]
theorem q_ev31 (C : Cn) {a} {t} (e : Vn) : ev C (.isn a t) e = (ev C a e).bind fun x => if nd x then .ok (.bool (isnD x t)) else .st := by simp only [ev]
theorem q_ev32 (C : Cn) {w} (e : Vn) : ev C (.lrg w) e = (evw C w e).bind fun xs => .ok (.list xs) := by simp only [ev]
theorem q_ev33 (C : Cn) {x} (e : Vn) : ev C (.fv x) e = .ok (fnD x) := by simp only [ev]
theorem q_ev34 (C : Cn) {i} {cs} {as} (e : Vn) : ev C (.cv i cs as) e = (evs C as e).bind fun xs => (vl (gt e i)).bind fun d => pickC C cs d xs := by simp only [ev]
theorem q_ev35 (C : Cn) {el} {t} {w} {cs} {own} (e : Vn) : ev C (.lc el t w cs own) e = if own.any (fun i => isOwn (gt e i)) then .st else (evw C w e).bind fun xs =>
      ((mapR (fun x => (asg t x (kil own e)).bind fun e2 => (evc C cs e2).bind fun k => if k then (ev C el e2).bind fun y => .ok (some y) else .ok none) xs).calm).bind fun ys => .ok (.list ys) := by simp only [ev]
theorem q_ev36 (C : Cn) {el} {t} {w} {cs} {t2} {w2} {cs2} {own} {own2} (e : Vn) : ev C (.lc2 el t w cs t2 w2 cs2 own own2) e = if own.any (fun i => isOwn (gt e i)) then .st else (evw C w e).bind fun xs =>
      ((catR (fun x => (asg t x (kil own e)).bind fun e2 => (evc C cs e2).bind fun k => if k then (evw C w2 e2).bind fun zs =>
          mapR (fun z => (asg t2 z (kil own2 e2)).bind fun e3 => (evc C cs2 e3).bind fun k2 => if k2 then (ev C el e3).bind fun y => .ok (some y) else .ok none) zs else .ok []) xs).calm).bind fun ys =>
        if ys.length ≤ 16777216 then .ok (.list ys) else .st := by simp only [ev]
theorem q_evs0 (C : Cn)  (e : Vn) : evs C .nil e = .ok [] := by simp only [evs]
theorem q_evs1 (C : Cn) {a} {r} (e : Vn) : evs C (.cons a r) e = (ev C a e).bind fun x => (evs C r e).bind fun xs => .ok (x :: xs) := by simp only [evs]
theorem q_evo0 (C : Cn)  (e : Vn) : evo C .no e = .ok none := by simp only [evo]
theorem q_evo1 (C : Cn) {a} (e : Vn) : evo C (.so a) e = (ev C a e).bind fun x => (asInt x).bind fun i => .ok (some i) := by simp only [evo]
theorem q_evw0 (C : Cn) {a} (e : Vn) : evw C (.sq a) e = (ev C a e).bind seqD := by simp only [evw]
theorem q_evw1 (C : Cn) {a : Xp} (e : Vn) : evw C (.tx a) e = (ev C a e).bind txD := by
  simp only [evw]
  first | done | (congr 1; first | done | (funext x; cases x <;> rfl))
theorem q_evw2 (C : Cn) {a} (e : Vn) : evw C (.r1 a) e = (ev C a e).bind fun x => (asInt x).bind fun i => if okR i then .ok (rng 0 i.toNat) else .st := by simp only [evw]
theorem q_evw3 (C : Cn) {a} {b} (e : Vn) : evw C (.r2 a b) e = (ev C a e).bind fun x => (ev C b e).bind fun y => (asInt x).bind fun i => (asInt y).bind fun j => if okR i && okR j && okR (j - i) then .ok (rng i (j - i).toNat) else .st := by simp only [evw]
theorem q_evw4 (C : Cn) {a0} {a1} {a2} (e : Vn) : evw C (.r3 a0 a1 a2) e = .st := by simp only [evw]
theorem q_evw5 (C : Cn) {a} (e : Vn) : evw C (.en a) e = (ev C a e).bind fun x => (seqD x).bind fun xs => .ok (enumFrom 0 xs) := by simp only [evw]
theorem q_evw6 (C : Cn) {a} {b} (e : Vn) : evw C (.zp a b) e = (ev C a e).bind fun x => (ev C b e).bind fun y => (zipS x y).bind fun p => .ok (zipD p.1 p.2) := by simp only [evw]
theorem q_evw7 (C : Cn) {a} (e : Vn) : evw C (.dk a) e = (ev C a e).bind keysD := by simp only [evw]
theorem q_ex0 (C : Cn) {a} (e : Vn) : ex C (.ex a) e = (ev C a e).to e fun _ => .nx e := by simp only [ex]
theorem q_ex1 (C : Cn) {i} {a} (e : Vn) : ex C (.set i a) e = (ev C a e).to e fun x => .nx (pt e i (some (.v x))) := by simp only [ex]
theorem q_ex2 (C : Cn) {i} {a} (e : Vn) : ex C (.setO i a) e = (ev C a e).to e fun x => .nx (pt e i (some (.o x))) := by simp only [ex]
theorem q_ex3 (C : Cn) {t} {a} (e : Vn) : ex C (.unp t a) e = (ev C a e).to e fun x => (asg t x e).to e .nx := by simp only [ex]
theorem q_ex4 (C : Cn) {i} {a} (e : Vn) : ex C (.app i a) e = (ev C a e).to e fun x => chg e i (appD x) := by simp only [ex]
theorem q_ex5 (C : Cn) {i} {a} (e : Vn) : ex C (.ext i a) e = (ev C a e).to e fun x => chg e i (extD x) := by simp only [ex]
theorem q_ex6 (C : Cn) {i} {k} {a} (e : Vn) : ex C (.puti i k a) e = (ev C a e).to e fun x => (ev C k e).to e fun y => chg e i (putD y x) := by simp only [ex]
theorem q_ex7 (C : Cn) {i} {k} {a} (e : Vn) : ex C (.dput i k a) e = (ev C a e).to e fun x => (ev C k e).to e fun y => chg e i (dputD false y x) := by simp only [ex]
theorem q_ex8 (C : Cn) {i} {ks} {a} (e : Vn) : ex C (.dputT i ks a) e = (ev C a e).to e fun x => (evs C ks e).to e fun ys => chg e i (dputD true (.tuple ys) x) := by simp only [ex]
theorem q_ex9 (C : Cn) {i} {op} {a} (e : Vn) : ex C (.aug i op a) e = (vl (gt e i)).to e fun x => (ev C a e).to e fun y => (augD op x y).to e fun z => .nx (pt e i (some (.v z))) := by simp only [ex]
theorem q_ex10 (C : Cn) {a} (e : Vn) : ex C (.ret a) e = (ev C a e).to e .rt := by simp only [ex]
theorem q_ex11 (C : Cn)  (e : Vn) : ex C .retn e = .rt .none := by simp only [ex]
theorem q_ex12 (C : Cn) {c} {a} {b} (e : Vn) : ex C (.ifs c a b) e = ((ev C c e).bind tru).to e fun k => if k then exs C a e else exs C b e := by simp only [ex]
theorem q_ex13 (C : Cn) {t} {w} {body} {kl} (e : Vn) : ex C (.fors t w body kl) e = (evw C w e).to e fun xs => forR t kl (exs C body) xs (kil kl e) := by simp only [ex]
theorem q_ex14 (C : Cn) {n} {c} {body} {kl} (e : Vn) : ex C (.whl n c body kl) e = whlR kl (fun e => (ev C c e).bind tru) (exs C body) n (kil kl e) := by simp only [ex]
theorem q_ex15 (C : Cn)  (e : Vn) : ex C .brk e = .bk e := by simp only [ex]
theorem q_ex16 (C : Cn)  (e : Vn) : ex C .cnt e = .ct e := by simp only [ex]
theorem q_ex17 (C : Cn)  (e : Vn) : ex C .pas e = .nx e := by simp only [ex]
theorem q_ex18 (C : Cn)  (e : Vn) : ex C .bad e = .st := by simp only [ex]
theorem q_ex19 (C : Cn) {i} {r} (e : Vn) : ex C (.setX i r) e = (evr C r e).toX e fun x => .nx (pt e i (some (.v x))) := by simp only [ex]
theorem q_ex20 (C : Cn) {r} (e : Vn) : ex C (.retX r) e = (evr C r e).toX e .rt := by simp only [ex]
theorem q_ex21 (C : Cn) {r} (e : Vn) : ex C (.exX r) e = (evr C r e).toX e fun _ => .nx e := by simp only [ex]
theorem q_ex22 (C : Cn) {t} {r} (e : Vn) : ex C (.unpX t r) e = (evr C r e).toX e fun x => (asg t x e).to e .nx := by simp only [ex]
theorem q_ex23 (C : Cn) {c} {fs} {as} (e : Vn) : ex C (.rai c fs as) e = (evs C as e).to e fun xs => if fs.length = xs.length ∧ xs.all flat0 = true then .er c (fs.zip xs) e else .st := by simp only [ex]
theorem q_ex24 (C : Cn) {is} {as} (e : Vn) : ex C (.par is as) e = (evs C as e).to e fun xs => parD is xs e := by simp only [ex]
theorem q_ex25 (C : Cn) {body} {c} {os} {i} {h} (e : Vn) : ex C (.trc body c os i h) e = (exs C body e).catch fun c' fs e' => if c' = c then exH fs h (pt e' i none) else if os.contains c' then .er c' fs e' else .st := by simp only [ex]
theorem q_exs0 (C : Cn)  (e : Vn) : exs C .nil e = .nx e := by simp only [exs]
theorem q_exs1 (C : Cn) {s} {r} (e : Vn) : exs C (.cons s r) e = (ex C s e).then (exs C r) := by simp only [exs]
theorem q_exs2 (C : Cn) {i} {r} (e : Vn) : exs C (.frz i r) e = (ow (gt e i)).to e fun d => exs C r (pt e i (some (.v d))) := by simp only [exs]
theorem q_exs3 (C : Cn) {is} {r} (e : Vn) : exs C (.kill is r) e = exs C r (kil is e) := by simp only [exs]
/-! loops -/
theorem mapR_all {f : D → Rs (Option D)} {g : D → D} : ∀ {xs : List D}, (∀ x ∈ xs, f x = .ok (some (g x))) → mapR f xs = .ok (xs.map g)
  | [], _ => rfl
  | x :: xs, h => by
    rw [mapR, h x List.mem_cons_self, Rs.bind_ok, mapR_all fun y hy => h y (List.mem_cons_of_mem _ hy)]
    rfl
theorem mapR_map {α : Type} {f : D → Rs (Option D)} {i : α → D} {g : α → D} : ∀ {xs : List α}, (∀ x ∈ xs, f (i x) = .ok (some (g x))) → mapR f (xs.map i) = .ok (xs.map g)
  | [], _ => rfl
  | x :: xs, h => by
    rw [List.map_cons, mapR, h x List.mem_cons_self, Rs.bind_ok, mapR_map fun y hy => h y (List.mem_cons_of_mem _ hy)]
    rfl
theorem mapR_filter {α : Type} {f : D → Rs (Option D)} {i : α → D} {g : α → D} {p : α → Bool} : ∀ {xs : List α}, (∀ x ∈ xs, f (i x) = .ok (if p x then some (g x) else none)) → mapR f (xs.map i) = .ok ((xs.filter p).map g)
  | [], _ => rfl
  | x :: xs, h => by
    rw [List.map_cons, mapR, h x List.mem_cons_self, Rs.bind_ok, mapR_filter fun y hy => h y (List.mem_cons_of_mem _ hy), Rs.bind_ok]
    cases hp : p x <;> simp [List.filter_cons, hp]
theorem qaR_all {α : Type} {f : D → Rs Bool} {i : α → D} {p : α → Bool} : ∀ {xs : List α}, (∀ x ∈ xs, f (i x) = .ok (p x)) → qaR true f (xs.map i) = .ok (xs.all p)
  | [], _ => rfl
  | x :: xs, h => by
    rw [List.map_cons, qaR, h x List.mem_cons_self, Rs.bind_ok, qaR_all fun y hy => h y (List.mem_cons_of_mem _ hy), List.all_cons]
    cases p x <;> rfl
theorem qaR_any {α : Type} {f : D → Rs Bool} {i : α → D} {p : α → Bool} : ∀ {xs : List α}, (∀ x ∈ xs, f (i x) = .ok (p x)) → qaR false f (xs.map i) = .ok (xs.any p)
  | [], _ => rfl
  | x :: xs, h => by
    rw [List.map_cons, qaR, h x List.mem_cons_self, Rs.bind_ok, qaR_any fun y hy => h y (List.mem_cons_of_mem _ hy), List.any_cons]
    cases p x <;> rfl
theorem rng_map (lo : Int) (n : Nat) : rng lo n = (List.range n).map fun (k : Nat) => (.int (lo + (k : Int)) : D) := rfl
theorem rng0 (n : Nat) : rng 0 n = (List.range n).map fun (k : Nat) => (.int (k : Int) : D) := by
  unfold rng
  congr 1
  funext k
  rw [Int.zero_add]
theorem at_nat {α : Type} (xs : List α) (k : Nat) : at' xs (k : Int) = xs[k]? := by
  unfold at'
  rw [if_pos (Int.natCast_nonneg k), Int.toNat_natCast]
theorem at_pos {α : Type} (xs : List α) {i : Int} (h : 0 ≤ i) : at' xs i = xs[i.toNat]? := by
  unfold at'
  rw [if_pos h]
theorem at_last {α : Type} (xs : List α) (h : xs ≠ []) : at' xs (-1) = xs.getLast? := by
  have hl : 0 < xs.length := List.length_pos_iff.mpr h
  unfold at'
  rw [if_neg (by omega), if_pos (by omega), List.getLast?_eq_getElem?]
  congr 1
  omega
theorem getD_some {α : Type} {xs : List α} {i : Nat} (d : α) (h : i < xs.length) : xs[i]? = some (xs.getD i d) := by
  rw [List.getD_eq_getElem?_getD, List.getElem?_eq_getElem h]
  rfl
theorem ix_list {xs : List D} {i : Int} {d : D} (h : at' xs i = some d) : ixD (.list xs) (.int i) = .ok d := by
  rw [x_l, h]
theorem ix_tup {xs : List D} {i : Int} {d : D} (h : at' xs i = some d) : ixD (.tuple xs) (.int i) = .ok d := by
  rw [x_t, h]
theorem ints_map : ∀ is : List Int, intsD (is.map fun i => (.int i : D)) = .ok is
  | [] => rfl
  | i :: is => by rw [List.map_cons, intsD, ints_map is]; rfl
theorem strs_map : ∀ is : List Str, strsD (is.map fun i => (.str i : D)) = .ok is
  | [] => rfl
  | i :: is => by rw [List.map_cons, strsD, strs_map is]; rfl
theorem eqD_int (i j : Int) : eqD (.int i) (.int j) = .ok (decide (i = j)) := by
  simp only [eqD, shp, PyData.eqv, Bool.and_self, if_true]
  by_cases h : i = j <;> simp [h]
theorem eqD_str (i j : Str) : eqD (.str i) (.str j) = .ok (decide (i = j)) := by
  simp only [eqD, shp, PyData.eqv, Bool.and_self, if_true]
  by_cases h : i = j <;> simp [h]
theorem eqD_bool (i j : Bool) : eqD (.bool i) (.bool j) = .ok (decide (i = j)) := by
  simp only [eqD, shp, PyData.eqv, Bool.and_self, if_true]
  by_cases h : i = j <;> simp [h]
theorem eqD_self {d : D} (h : shp 12 d = true) : eqD d d = .ok true := by
  unfold eqD
  rw [h, PySem.SeqAt.eqv_refl_plain d (shp_plain 12 d h)]
  rfl
theorem eqD_nil_int : eqD .none .none = .ok true := by simp only [eqD, shp, PyData.eqv, Bool.and_self, if_true]
theorem joinL_len (S : List Nat) : ∀ ps : List (List Nat), (TL.joinL S ps).length = (ps.map List.length).sum + (ps.length - 1) * S.length
  | [] => by simp [TL.joinL]
  | [p] => by simp [TL.joinL]
  | p :: q :: r => by
    have ih := joinL_len S (q :: r)
    simp only [TL.joinL, List.length_append, ih, List.map_cons, List.sum_cons, List.length_cons]
    have : (r.length + 1 + 1 - 1) * S.length = S.length + (r.length + 1 - 1) * S.length := by
      rw [show r.length + 1 + 1 - 1 = 1 + r.length by omega, show r.length + 1 - 1 = r.length by omega, Nat.add_mul, Nat.one_mul]
    omega
theorem join_len (a : Str) (ys : List Str) : (Str.join a ys).length = (ys.map (·.length)).sum + (ys.length - 1) * a.length := by
  rw [TL.len_tl, TL.tl_join, joinL_len, List.map_map, List.length_map, ← TL.len_tl]
  congr 2
theorem nil_or_snoc {α : Type} (xs : List α) : xs = [] ∨ ∃ init last, xs = init ++ [last] := by
  rcases List.eq_nil_or_concat xs with h | ⟨i, l, h⟩
  · exact .inl h
  · exact .inr ⟨i, l, by rw [h, List.concat_eq_append]⟩
theorem len_flatten {α : Type} : ∀ {ls : List (List α)}, (∀ l ∈ ls, l ≠ []) → ls.length ≤ ls.flatten.length
  | [], _ => Nat.le_refl _
  | a :: as, h => by
    have h4 := List.length_pos_iff.mpr (h a (by simp))
    have h5 := len_flatten fun l hl => h l (List.mem_cons_of_mem _ hl)
    simp only [List.flatten_cons, List.length_append, List.length_cons]
    omega
theorem put_last (xs : List D) (x y : D) : putD (.int (-1)) x (.list (xs ++ [y])) = .ok (.list (xs ++ [x])) := by
  have e1 : (-1 + ((xs ++ [y]).length : Int)).toNat = xs.length := by rw [List.length_append]; simp only [List.length_cons, List.length_nil]; omega
  have e2 : (0 : Int) ≤ -1 + ((xs ++ [y]).length : Int) := by rw [List.length_append]; simp only [List.length_cons, List.length_nil]; omega
  rw [p_l, if_neg (by decide), if_pos e2, e1]
  simp
theorem ix_last (xs : List D) (y : D) : ixD (.list (xs ++ [y])) (.int (-1)) = .ok y := ix_list (by rw [at_last _ (by simp)]; simp)
/-- a loop through all turns: the frame is E of the state -/
theorem forR_fold {α σ : Type} {t : Tg} {kl : List Nat} {body : Vn → Ot} {i : α → D} (E : σ → Vn) (step : σ → α → σ) (P : σ → Prop) : ∀ (xs : List α) (s : σ), P s →
    (∀ x ∈ xs, ∀ s, P s → P (step s x) ∧ ∃ e', asg t (i x) (E s) = .ok e' ∧ ∀ f, (body e').turn kl f = f (E (step s x))) →
    forR t kl body (xs.map i) (E s) = .nx (E (xs.foldl step s)) ∧ P (xs.foldl step s)
  | [], s, hs, _ => ⟨rfl, hs⟩
  | x :: xs, s, hs, h => by
    obtain ⟨h1, e', h2, h3⟩ := h x List.mem_cons_self s hs
    obtain ⟨h4, h5⟩ := forR_fold E step P xs (step s x) h1 fun y hy s' hs' => h y (List.mem_cons_of_mem _ hy) s' hs'
    refine ⟨?_, h5⟩
    rw [List.map_cons, forR, h2, Rs.to_ok, h3, List.foldl_cons]
    exact h4
/-- a loop through all turns: what holds at each turn's head -/
theorem forR_inv {α : Type} {t : Tg} {kl : List Nat} {body : Vn → Ot} {i : α → D} (I : Nat → Vn → Prop) : ∀ (xs : List α) (n : Nat) (e : Vn), I n e →
    (∀ k x e, xs[k]? = some x → I (n + k) e → ∃ e', asg t (i x) e = .ok e' ∧ ∃ e'', (∀ f, (body e').turn kl f = f e'') ∧ I (n + k + 1) e'') →
    ∃ e', forR t kl body (xs.map i) e = .nx e' ∧ I (n + xs.length) e'
  | [], n, e, h, _ => ⟨e, rfl, h⟩
  | x :: xs, n, e, h, hs => by
    obtain ⟨e', h1, e'', h2, h3⟩ := hs 0 x e rfl h
    obtain ⟨r, h4, h5⟩ := forR_inv I xs (n + 1) e'' h3 fun k y e hy he => by
      have := hs (k + 1) y e (by simpa using hy) (by rwa [show n + (k + 1) = n + 1 + k by omega])
      rwa [show n + (k + 1) + 1 = n + 1 + k + 1 by omega] at this
    refine ⟨r, ?_, by rw [List.length_cons]; rwa [show n + (xs.length + 1) = n + 1 + xs.length by omega]⟩
    rw [List.map_cons, forR, h1, Rs.to_ok, h2]
    exact h4
theorem ixI (l : List Int) (k : Nat) (h : k < l.length) : ixD (.list (l.map fun i => .int i)) (.int (k : Int)) = .ok (.int (l.getD k 0)) := ix_list (by
  rw [at_nat, List.getElem?_map, getD_some (0 : Int) h]
  rfl)
/-- a loop that may end the def -/
theorem forR_or {α : Type} {t : Tg} {kl : List Nat} {body : Vn → Ot} {i : α → D} (I : Nat → Vn → Prop) (P : D → Prop) : ∀ (xs : List α) (n : Nat) (e : Vn), I n e →
    (∀ k x e, xs[k]? = some x → I (n + k) e → ∃ e', asg t (i x) e = .ok e' ∧ ((∃ d, P d ∧ body e' = .rt d) ∨ ∃ e'', (∀ f, (body e').turn kl f = f e'') ∧ I (n + k + 1) e'')) →
    (∃ d, P d ∧ forR t kl body (xs.map i) e = .rt d) ∨ ∃ e', forR t kl body (xs.map i) e = .nx e' ∧ I (n + xs.length) e'
  | [], n, e, h, _ => .inr ⟨e, rfl, h⟩
  | x :: xs, n, e, h, hs => by
    obtain ⟨e', h1, h2⟩ := hs 0 x e rfl h
    rcases h2 with ⟨d, hd, h2⟩ | ⟨e'', h2, h3⟩
    · refine .inl ⟨d, hd, ?_⟩
      rw [List.map_cons, forR, h1, Rs.to_ok, h2]
      rfl
    · have ih := forR_or I P xs (n + 1) e'' h3 fun k y e hy he => by
        have := hs (k + 1) y e (by simpa using hy) (by rwa [show n + (k + 1) = n + 1 + k by omega])
        rwa [show n + (k + 1) + 1 = n + 1 + k + 1 by omega] at this
      rcases ih with ⟨d, hd, h4⟩ | ⟨r, h4, h5⟩
      · refine .inl ⟨d, hd, ?_⟩
        rw [List.map_cons, forR, h1, Rs.to_ok, h2]
        exact h4
      · refine .inr ⟨r, ?_, by rw [List.length_cons]; rwa [show n + (xs.length + 1) = n + 1 + xs.length by omega]⟩
        rw [List.map_cons, forR, h1, Rs.to_ok, h2]
        exact h4
end Bk
open PySem PySem.Spec PyProof.Rows L2
/-! ### the program of law_k57_work_and_turn: its defs as terms -/
namespace Bk
def nm_rotated_mark : List Str := ["mark"]
def ir_rotated_mark : Sms := (.cons (.ret (.tup (.cons (.ix (.var 0) (.int 0)) (.cons (.nt (.ix (.var 0) (.int 1))) .nil)))) .nil)
def c_rotated_mark : Cn := ⟨fun _ _ => .st, fun _ => .st⟩
def d_rotated_mark (xs : List D) : Rs D := run c_rotated_mark 1 ir_rotated_mark xs
def nm_rotated : List Str := ["side", "row", "mark"]
def ir_rotated : Sms := (.cons (.ret (.bi .tuple (.cons (.lc (.bi .tuple (.cons (.lc (.call 0 (.cons (.var 2) .nil)) (.nm 2) (.sq (.rev (.var 1))) .nil [2]) .nil)) (.nm 1) (.sq (.rev (.var 0))) .nil [1]) .nil))) .nil)
def c_rotated : Cn := ⟨fun j => match j with | 0 => d_rotated_mark | _ => fun _ => .st, fun _ => .st⟩
def d_rotated (xs : List D) : Rs D := run c_rotated 3 ir_rotated xs
theorem fn_rotated_0 : c_rotated.fn 0 = d_rotated_mark := rfl
def nm_turn_print : List Str := ["sheet", "axis", "front", "back"]
def ir_turn_print : Sms := (.cons (.unp (.tp (.cons (.nm 2) (.cons (.nm 3) .nil))) (.var 0)) (.cons (.ifs (.cmp .Eq (.var 1) (.str "vertical")) (.cons (.ret (.tup (.cons (.var 3) (.cons (.var 2) .nil)))) .nil) .nil) (.cons (.ifs (.cmp .Eq (.var 1) (.str "horizontal")) (.cons (.ret (.tup (.cons (.call 0 (.cons (.var 3) .nil)) (.cons (.call 0 (.cons (.var 2) .nil)) .nil)))) .nil) .nil) (.cons (.ret (.tup (.cons (.call 0 (.cons (.var 2) .nil)) (.cons (.call 0 (.cons (.var 3) .nil)) .nil)))) .nil))))
def c_turn_print : Cn := ⟨fun j => match j with | 0 => d_rotated | _ => fun _ => .st, fun _ => .st⟩
def d_turn_print (xs : List D) : Rs D := run c_turn_print 4 ir_turn_print xs
theorem fn_turn_print_0 : c_turn_print.fn 0 = d_rotated := rfl
def nm_part_of_columns : List Str := ["sheet", "first", "behind", "front", "back", "count", "rear", "row"]
def ir_part_of_columns : Sms := (.cons (.unp (.tp (.cons (.nm 3) (.cons (.nm 4) .nil))) (.var 0)) (.cons (.set 5 (.bi .len (.cons (.ix (.var 3) (.int 0)) .nil))) (.cons (.set 6 (.bi .tuple (.cons (.lc (.sl (.var 7) (.so (.bin .Sub (.var 5) (.var 2))) (.so (.bin .Sub (.var 5) (.var 1)))) (.nm 7) (.sq (.var 4)) .nil [7]) .nil))) (.cons (.ret (.tup (.cons (.bi .tuple (.cons (.lc (.sl (.var 7) (.so (.var 1)) (.so (.var 2))) (.nm 7) (.sq (.var 3)) .nil [7]) .nil)) (.cons (.var 6) .nil)))) .nil))))
def c_part_of_columns : Cn := ⟨fun _ _ => .st, fun _ => .st⟩
def d_part_of_columns (xs : List D) : Rs D := run c_part_of_columns 8 ir_part_of_columns xs
def nm_part_of_rows : List Str := ["sheet", "first", "behind"]
def ir_part_of_rows : Sms := (.cons (.ret (.tup (.cons (.sl (.ix (.var 0) (.int 0)) (.so (.var 1)) (.so (.var 2))) (.cons (.sl (.ix (.var 0) (.int 1)) (.so (.var 1)) (.so (.var 2))) .nil)))) .nil)
def c_part_of_rows : Cn := ⟨fun _ _ => .st, fun _ => .st⟩
def d_part_of_rows (xs : List D) : Rs D := run c_part_of_rows 3 ir_part_of_rows xs
def nm_cut_print : List Str := ["sheet", "edge", "line", "count", "take"]
def ir_cut_print : Sms := (.cons (.set 3 (.ife (.cmp .In (.var 1) (.tup (.cons (.str "left") (.cons (.str "right") .nil)))) (.bi .len (.cons (.ix (.ix (.var 0) (.int 0)) (.int 0)) .nil)) (.bi .len (.cons (.ix (.var 0) (.int 0)) .nil)))) (.cons (.ifs (.cmp .GtE (.var 2) (.var 3)) (.cons (.rai "Refused" ["what"] (.cons (.str "line outside the print") .nil)) .nil) .nil) (.cons (.set 4 (.ife (.cmp .In (.var 1) (.tup (.cons (.str "left") (.cons (.str "right") .nil)))) (.fv "part_of_columns") (.fv "part_of_rows"))) (.cons (.ifs (.cmp .In (.var 1) (.tup (.cons (.str "left") (.cons (.str "top") .nil)))) (.cons (.ret (.tup (.cons (.cv 4 [("part_of_columns", 0), ("part_of_rows", 1)] (.cons (.var 0) (.cons (.var 2) (.cons (.var 3) .nil)))) (.cons (.cv 4 [("part_of_columns", 0), ("part_of_rows", 1)] (.cons (.var 0) (.cons (.int 0) (.cons (.var 2) .nil)))) .nil)))) .nil) .nil) (.cons (.ret (.tup (.cons (.cv 4 [("part_of_columns", 0), ("part_of_rows", 1)] (.cons (.var 0) (.cons (.int 0) (.cons (.bin .Sub (.var 3) (.var 2)) .nil)))) (.cons (.cv 4 [("part_of_columns", 0), ("part_of_rows", 1)] (.cons (.var 0) (.cons (.bin .Sub (.var 3) (.var 2)) (.cons (.var 3) .nil)))) .nil)))) .nil)))))
def c_cut_print : Cn := ⟨fun j => match j with | 0 => d_part_of_columns | 1 => d_part_of_rows | _ => fun _ => .st, fun _ => .st⟩
def d_cut_print (xs : List D) : Rs D := run c_cut_print 5 ir_cut_print xs
theorem fn_cut_print_0 : c_cut_print.fn 0 = d_part_of_columns := rfl
theorem fn_cut_print_1 : c_cut_print.fn 1 = d_part_of_rows := rfl
def nm_joined : List Str := ["first", "second", "axis", "front", "one", "other"]
def ir_joined : Sms := (.cons (.ifs (.cmp .Eq (.var 2) (.str "vertical")) (.cons (.set 3 (.bi .tuple (.cons (.lc (.bin .Add (.var 4) (.var 5)) (.tp (.cons (.nm 4) (.cons (.nm 5) .nil))) (.zp (.ix (.var 0) (.int 0)) (.ix (.var 1) (.int 0))) .nil [4, 5]) .nil))) (.cons (.ret (.tup (.cons (.var 3) (.cons (.bi .tuple (.cons (.lc (.bin .Add (.var 5) (.var 4)) (.tp (.cons (.nm 4) (.cons (.nm 5) .nil))) (.zp (.ix (.var 0) (.int 1)) (.ix (.var 1) (.int 1))) .nil [4, 5]) .nil)) .nil)))) .nil)) .nil) (.cons (.ret (.tup (.cons (.bin .Add (.ix (.var 0) (.int 0)) (.ix (.var 1) (.int 0))) (.cons (.bin .Add (.ix (.var 0) (.int 1)) (.ix (.var 1) (.int 1))) .nil)))) .nil))
def c_joined : Cn := ⟨fun _ _ => .st, fun _ => .st⟩
def d_joined (xs : List D) : Rs D := run c_joined 6 ir_joined xs
def nm_check_size : List Str := ["sheet"]
def ir_check_size : Sms := (.cons (.ifs (.bo .Or (.cons (.cmp .Gt (.bi .len (.cons (.ix (.var 0) (.int 0)) .nil)) (.glo 0)) (.cons (.cmp .Gt (.bi .len (.cons (.ix (.ix (.var 0) (.int 0)) (.int 0)) .nil)) (.glo 0)) .nil))) (.cons (.rai "Refused" ["what"] (.cons (.str "print is too large") .nil)) .nil) .nil) .nil)
def c_check_size : Cn := ⟨fun _ _ => .st, fun j => match j with | 0 => .ok (.int 8) | _ => .st⟩
def d_check_size (xs : List D) : Rs D := run c_check_size 1 ir_check_size xs
theorem gn_check_size_0 : c_check_size.gl 0 = .ok (.int 8) := rfl
def nm_join_prints : List Str := ["first", "second", "axis", "made"]
def ir_join_prints : Sms := (.cons (.ifs (.bo .And (.cons (.cmp .Eq (.var 2) (.str "vertical")) (.cons (.cmp .NotEq (.bi .len (.cons (.ix (.var 0) (.int 0)) .nil)) (.bi .len (.cons (.ix (.var 1) (.int 0)) .nil))) .nil))) (.cons (.rai "Refused" ["what"] (.cons (.str "prints differ in size") .nil)) .nil) .nil) (.cons (.ifs (.bo .And (.cons (.cmp .Eq (.var 2) (.str "horizontal")) (.cons (.cmp .NotEq (.bi .len (.cons (.ix (.ix (.var 0) (.int 0)) (.int 0)) .nil)) (.bi .len (.cons (.ix (.ix (.var 1) (.int 0)) (.int 0)) .nil))) .nil))) (.cons (.rai "Refused" ["what"] (.cons (.str "prints differ in size") .nil)) .nil) .nil) (.cons (.set 3 (.call 0 (.cons (.var 0) (.cons (.var 1) (.cons (.var 2) .nil))))) (.cons (.exX (.call 1 (.cons (.var 3) .nil))) (.cons (.ret (.var 3)) .nil)))))
def c_join_prints : Cn := ⟨fun j => match j with | 0 => d_joined | 1 => d_check_size | _ => fun _ => .st, fun _ => .st⟩
def d_join_prints (xs : List D) : Rs D := run c_join_prints 4 ir_join_prints xs
theorem fn_join_prints_0 : c_join_prints.fn 0 = d_joined := rfl
theorem fn_join_prints_1 : c_join_prints.fn 1 = d_check_size := rfl
def nm_work_and_turn : List Str := ["sheet"]
def ir_work_and_turn : Sms := (.cons (.retX (.call 0 (.cons (.var 0) (.cons (.call 1 (.cons (.var 0) (.cons (.str "vertical") .nil))) (.cons (.str "vertical") .nil))))) .nil)
def c_work_and_turn : Cn := ⟨fun j => match j with | 0 => d_join_prints | 1 => d_turn_print | _ => fun _ => .st, fun _ => .st⟩
def d_work_and_turn (xs : List D) : Rs D := run c_work_and_turn 1 ir_work_and_turn xs
theorem fn_work_and_turn_0 : c_work_and_turn.fn 0 = d_join_prints := rfl
theorem fn_work_and_turn_1 : c_work_and_turn.fn 1 = d_turn_print := rfl
def nm_work_and_tumble : List Str := ["sheet"]
def ir_work_and_tumble : Sms := (.cons (.retX (.call 0 (.cons (.var 0) (.cons (.call 1 (.cons (.var 0) (.cons (.str "horizontal") .nil))) (.cons (.str "horizontal") .nil))))) .nil)
def c_work_and_tumble : Cn := ⟨fun j => match j with | 0 => d_join_prints | 1 => d_turn_print | _ => fun _ => .st, fun _ => .st⟩
def d_work_and_tumble (xs : List D) : Rs D := run c_work_and_tumble 1 ir_work_and_tumble xs
theorem fn_work_and_tumble_0 : c_work_and_tumble.fn 0 = d_join_prints := rfl
theorem fn_work_and_tumble_1 : c_work_and_tumble.fn 1 = d_turn_print := rfl
def nm_printing_method : List Str := ["sheet", "front", "back"]
def ir_printing_method : Sms := (.cons (.unp (.tp (.cons (.nm 1) (.cons (.nm 2) .nil))) (.var 0)) (.cons (.ifs (.cmp .Eq (.var 2) (.var 1)) (.cons (.ret (.str "work and turn")) .nil) .nil) (.cons (.ret (.ife (.cmp .Eq (.var 2) (.call 0 (.cons (.var 1) .nil))) (.str "work and tumble") (.str "sheetwise"))) .nil)))
def c_printing_method : Cn := ⟨fun j => match j with | 0 => d_rotated | _ => fun _ => .st, fun _ => .st⟩
def d_printing_method (xs : List D) : Rs D := run c_printing_method 3 ir_printing_method xs
theorem fn_printing_method_0 : c_printing_method.fn 0 = d_rotated := rfl
def nm__law_cell : List Str := ["_law_script", "_law_k"]
def ir__law_cell : Sms := (.cons (.ifs (.cmp .Lt (.var 1) (.bi .len (.cons (.var 0) .nil))) (.cons (.ret (.ix (.var 0) (.var 1))) .nil) .nil) (.cons (.ret (.int 0)) .nil))
def c__law_cell : Cn := ⟨fun _ _ => .st, fun _ => .st⟩
def d__law_cell (xs : List D) : Rs D := run c__law_cell 2 ir__law_cell xs
def nm__law_draws : List Str := ["_law_cell_here", "_law_count", "_law_found", "_law_is_wide", "_law_k", "_law_mixed"]
def b__law_draws_0 : Sms := (.cons (.ifs (.var 3) (.cons (.app 2 (.bin .Mod (.bi .int (.cons (.var 0) .nil)) (.int 1009))) (.cons (.set 0 (.bin .FloorDiv (.var 0) (.int 1009))) .nil)) (.cons (.set 5 (.bin .Mod (.bi .int (.cons (.bin .Add (.bin .Mult (.var 0) (.int 48271)) (.bin .Mult (.var 4) (.int 69621))) .nil)) (.int 2147483647))) (.cons (.app 2 (.bin .Mod (.bi .int (.cons (.bin .Add (.bin .Add (.bin .Mult (.var 5) (.var 5)) (.bin .Mult (.var 0) (.int 31))) (.var 4)) .nil)) (.int 1000003))) .nil))) .nil)
def ir__law_draws : Sms := (.cons (.setO 2 (.lst .nil)) (.cons (.set 3 (.cmp .GtE (.var 0) (.bin .Pow (.int 10) (.int 18)))) (.cons (.fors (.nm 4) (.r1 (.var 1)) b__law_draws_0 [1, 4, 5]) (.frz 2 (.cons (.ret (.var 2)) .nil)))))
def c__law_draws : Cn := ⟨fun _ _ => .st, fun _ => .st⟩
def d__law_draws (xs : List D) : Rs D := run c__law_draws 6 ir__law_draws xs
def nm__law_same : List Str := ["_law_actual", "_law_expected", "_law_k"]
def b__law_same_0 : Sms := (.cons (.ifs (.nt (.call 0 (.cons (.ix (.var 0) (.var 2)) (.cons (.ix (.var 1) (.var 2)) .nil)))) (.cons (.ret (.bl false)) .nil) .nil) .nil)
def ir__law_same : Sms := (.cons (.ifs (.isn (.var 1) .tuple) (.cons (.ifs (.bo .Or (.cons (.nt (.isn (.var 0) .tuple)) (.cons (.cmp .NotEq (.bi .len (.cons (.var 0) .nil)) (.bi .len (.cons (.var 1) .nil))) .nil))) (.cons (.ret (.bl false)) .nil) .nil) (.cons (.fors (.nm 2) (.r1 (.bi .len (.cons (.var 1) .nil))) b__law_same_0 [2]) (.cons (.ret (.bl true)) .nil))) .nil) (.cons (.ifs (.cmp .Is (.var 1) .non) (.cons (.ret (.cmp .Is (.var 0) .non)) .nil) .nil) (.cons (.ifs (.isn (.var 1) .bool) (.cons (.ret (.bo .And (.cons (.isn (.var 0) .bool) (.cons (.cmp .Eq (.var 0) (.var 1)) .nil)))) .nil) .nil) (.cons (.ifs (.isn (.var 1) .str) (.cons (.ret (.bo .And (.cons (.isn (.var 0) .str) (.cons (.cmp .Eq (.var 0) (.var 1)) .nil)))) .nil) .nil) (.cons (.ret (.bo .And (.cons (.isn (.var 0) .int) (.cons (.nt (.isn (.var 0) .bool)) (.cons (.cmp .Eq (.var 0) (.var 1)) .nil))))) .nil)))))
def c__law_same (s : List D → Rs D) : Cn := ⟨fun j => match j with | 0 => s | _ => fun _ => .st, fun _ => .st⟩
def r__law_same : Nat → List D → Rs D
  | 0 => fun _ => .st
  | n + 1 => fun xs => run (c__law_same (r__law_same n)) 3 ir__law_same xs
def d__law_same (xs : List D) : Rs D := r__law_same 8 xs
theorem fn__law_same_0 (s : List D → Rs D) : (c__law_same s).fn 0 = s := rfl
def nm__law_print : List Str := ["_law_script", "_law_start", "_law_draws_here", "_law_rows", "_law_columns", "_law_marks", "_law_sides", "_law_side", "_law_made", "_law_row", "_law_at", "_law_spread", "_law_k"]
def b__law_print_0 : Sms := (.cons (.set 10 (.bin .Add (.bin .Mult (.var 7) (.int 32)) (.bin .Mult (.var 9) (.int 8)))) (.cons (.set 11 (.ix (.lst (.cons (.int 2) (.cons (.int 40) .nil))) (.bin .Mod (.bi .int (.cons (.ix (.var 2) (.int 2)) .nil)) (.int 2)))) (.cons (.app 8 (.bi .tuple (.cons (.lc (.tup (.cons (.bin .Mod (.bi .int (.cons (.ix (.var 5) (.bin .Add (.var 10) (.var 12))) .nil)) (.var 11)) (.cons (.cmp .Eq (.bin .Mod (.bi .int (.cons (.ix (.var 5) (.bin .Add (.var 10) (.var 12))) .nil)) (.int 3)) (.int 0)) .nil))) (.nm 12) (.r1 (.var 4)) .nil [12]) .nil))) .nil)))
def b__law_print_1 : Sms := (.cons (.setO 8 (.lst .nil)) (.cons (.fors (.nm 9) (.r1 (.var 3)) b__law_print_0 [0, 1, 9, 10, 11, 12]) (.cons (.app 6 (.bi .tuple (.cons (.pk 8) .nil))) .nil)))
def ir__law_print : Sms := (.cons (.set 2 (.call 0 (.cons (.call 1 (.cons (.var 0) (.cons (.var 1) .nil))) (.cons (.int 3) .nil)))) (.cons (.set 3 (.bin .Add (.int 1) (.bin .Mod (.bi .int (.cons (.ix (.var 2) (.int 0)) .nil)) (.int 4)))) (.cons (.set 4 (.bin .Add (.int 1) (.bin .Mod (.bi .int (.cons (.ix (.var 2) (.int 1)) .nil)) (.int 4)))) (.cons (.set 5 (.call 0 (.cons (.call 1 (.cons (.var 0) (.cons (.bin .Add (.var 1) (.int 1)) .nil))) (.cons (.int 64) .nil)))) (.cons (.setO 6 (.lst .nil)) (.cons (.fors (.nm 7) (.r1 (.int 2)) b__law_print_1 [0, 1, 7, 8, 9, 10, 11, 12]) (.cons (.ret (.tup (.cons (.ix (.pk 6) (.int 0)) (.cons (.ix (.pk 6) (.int 1)) .nil)))) .nil)))))))
def c__law_print : Cn := ⟨fun j => match j with | 0 => d__law_draws | 1 => d__law_cell | _ => fun _ => .st, fun _ => .st⟩
def d__law_print (xs : List D) : Rs D := run c__law_print 13 ir__law_print xs
theorem fn__law_print_0 : c__law_print.fn 0 = d__law_draws := rfl
theorem fn__law_print_1 : c__law_print.fn 1 = d__law_cell := rfl
def nm__law_turned_side : List Str := ["_law_side", "_law_row", "_law_mark"]
def ir__law_turned_side : Sms := (.cons (.ret (.bi .tuple (.cons (.lc (.bi .tuple (.cons (.lc (.tup (.cons (.ix (.var 2) (.int 0)) (.cons (.nt (.ix (.var 2) (.int 1))) .nil))) (.nm 2) (.sq (.rev (.var 1))) .nil [2]) .nil)) (.nm 1) (.sq (.rev (.var 0))) .nil [1]) .nil))) .nil)
def c__law_turned_side : Cn := ⟨fun _ _ => .st, fun _ => .st⟩
def d__law_turned_side (xs : List D) : Rs D := run c__law_turned_side 3 ir__law_turned_side xs
def nm__law_told : List Str := ["_law_make", "_law_sheet", "e"]
def b__law_told_0 : Sms := (.cons (.retX (.cv 0 [("work_and_turn", 0), ("work_and_tumble", 1)] (.cons (.var 1) .nil))) .nil)
def ir__law_told : Sms := (.cons (.trc b__law_told_0 "Refused" [] 2 (.ret (.fld "what"))) .nil)
def c__law_told : Cn := ⟨fun j => match j with | 0 => d_work_and_turn | 1 => d_work_and_tumble | _ => fun _ => .st, fun _ => .st⟩
def d__law_told (xs : List D) : Rs D := run c__law_told 3 ir__law_told xs
theorem fn__law_told_0 : c__law_told.fn 0 = d_work_and_turn := rfl
theorem fn__law_told_1 : c__law_told.fn 1 = d_work_and_tumble := rfl
def nm__law_wider : List Str := ["_law_sheet", "_law_script", "_law_choice", "_law_front", "_law_back", "_law_row"]
def ir__law_wider : Sms := (.cons (.set 2 (.bin .Mod (.call 0 (.cons (.var 1) (.cons (.int 2) .nil))) (.int 3))) (.cons (.unp (.tp (.cons (.nm 3) (.cons (.nm 4) .nil))) (.var 0)) (.cons (.ifs (.cmp .Eq (.var 2) (.int 1)) (.cons (.ret (.tup (.cons (.bi .tuple (.cons (.lc (.bin .Add (.var 5) (.var 5)) (.nm 5) (.sq (.var 3)) .nil [5]) .nil)) (.cons (.bi .tuple (.cons (.lc (.bin .Add (.var 5) (.var 5)) (.nm 5) (.sq (.var 4)) .nil [5]) .nil)) .nil)))) .nil) .nil) (.cons (.ret (.ife (.cmp .Eq (.var 2) (.int 2)) (.tup (.cons (.bin .Add (.var 3) (.var 3)) (.cons (.bin .Add (.var 4) (.var 4)) .nil))) (.var 0))) .nil))))
def c__law_wider : Cn := ⟨fun j => match j with | 0 => d__law_cell | _ => fun _ => .st, fun _ => .st⟩
def d__law_wider (xs : List D) : Rs D := run c__law_wider 6 ir__law_wider xs
theorem fn__law_wider_0 : c__law_wider.fn 0 = d__law_cell := rfl
def nm_law : List Str := ["_law_script", "_law_sheet", "_law_rows", "_law_columns", "_law_told_here"]
def ir_law : Sms := (.cons (.set 1 (.call 0 (.cons (.call 1 (.cons (.var 0) (.cons (.int 0) .nil))) (.cons (.var 0) .nil)))) (.cons (.par [2, 3] (.cons (.bi .len (.cons (.ix (.var 1) (.int 0)) .nil)) (.cons (.bi .len (.cons (.ix (.ix (.var 1) (.int 0)) (.int 0)) .nil)) .nil))) (.cons (.set 4 (.call 2 (.cons (.fv "work_and_turn") (.cons (.var 1) .nil)))) (.cons (.ifs (.cmp .Gt (.var 3) (.int 4)) (.cons (.ifs (.cmp .NotEq (.var 4) (.str "print is too large")) (.cons (.ret (.bl false)) .nil) .nil) .nil) (.cons (.ifs (.bo .Or (.cons (.nt (.isn (.var 4) .tuple)) (.cons (.cmp .NotEq (.ix (.var 4) (.int 0)) (.ix (.var 4) (.int 1))) (.cons (.cmp .NotEq (.call 4 (.cons (.var 4) .nil)) (.str "work and turn")) .nil)))) (.cons (.ret (.bl false)) .nil) .nil) (.cons (.ifs (.cmp .NotEq (.call 5 (.cons (.var 4) (.cons (.str "right") (.cons (.var 3) .nil)))) (.tup (.cons (.var 1) (.cons (.call 6 (.cons (.var 1) (.cons (.str "vertical") .nil))) .nil)))) (.cons (.ret (.bl false)) .nil) .nil) .nil))) (.cons (.set 4 (.call 2 (.cons (.fv "work_and_tumble") (.cons (.var 1) .nil)))) (.cons (.ifs (.cmp .Gt (.var 2) (.int 4)) (.cons (.ret (.cmp .Eq (.var 4) (.str "print is too large"))) .nil) .nil) (.cons (.ifs (.bo .Or (.cons (.nt (.isn (.var 4) .tuple)) (.cons (.cmp .NotEq (.ix (.var 4) (.int 1)) (.call 8 (.cons (.ix (.var 4) (.int 0)) .nil))) .nil))) (.cons (.ret (.bl false)) .nil) .nil) (.cons (.ifs (.cmp .NotEq (.call 4 (.cons (.var 4) .nil)) (.ife (.cmp .Eq (.ix (.var 4) (.int 0)) (.ix (.var 4) (.int 1))) (.str "work and turn") (.str "work and tumble"))) (.cons (.ret (.bl false)) .nil) .nil) (.cons (.ret (.cmp .Eq (.call 5 (.cons (.var 4) (.cons (.str "bottom") (.cons (.var 2) .nil)))) (.tup (.cons (.var 1) (.cons (.call 6 (.cons (.var 1) (.cons (.str "horizontal") .nil))) .nil))))) .nil)))))))))
def c_law : Cn := ⟨fun j => match j with | 0 => d__law_wider | 1 => d__law_print | 2 => d__law_told | 3 => d_work_and_turn | 4 => d_printing_method | 5 => d_cut_print | 6 => d_turn_print | 7 => d_work_and_tumble | 8 => d__law_turned_side | _ => fun _ => .st, fun _ => .st⟩
def d_law (xs : List D) : Rs D := run c_law 5 ir_law xs
theorem fn_law_0 : c_law.fn 0 = d__law_wider := rfl
theorem fn_law_1 : c_law.fn 1 = d__law_print := rfl
theorem fn_law_2 : c_law.fn 2 = d__law_told := rfl
theorem fn_law_3 : c_law.fn 3 = d_work_and_turn := rfl
theorem fn_law_4 : c_law.fn 4 = d_printing_method := rfl
theorem fn_law_5 : c_law.fn 5 = d_cut_print := rfl
theorem fn_law_6 : c_law.fn 6 = d_turn_print := rfl
theorem fn_law_7 : c_law.fn 7 = d_work_and_tumble := rfl
theorem fn_law_8 : c_law.fn 8 = d__law_turned_side := rfl
end Bk
namespace Bk
open PySem PySem.Spec PyProof.Rows L2
theorem cell_eq (ns : List Int) (k : Nat) (hk : ns.length ≤ 63) : d__law_cell [.list (ns.map fun i => .int i), .int k] = .ok (.int (ns.getD k 0)) := by
  simp (implicitDefEqProofs := false) only [d__law_cell, ir__law_cell, out_er, r_x, r_call, r_cv, r_ife, pick_c, isFn_fn, h_fld, h_var, h_non, h_bl, h_int, h_str, h_cmp, h_bo, h_nt, h_ife, h_ret, h_ifr, fld_1, cmpH_ss, cmpH_ii, par_2, par_3, f0_s, f0_i, eq_self, fl_all1, zip_1, Rs.toX_ok, Rs.toX_er, Rs.toX_st, Ot.catch_nx, Ot.catch_rt, Ot.catch_bk, Ot.catch_ct, Ot.catch_er, Ot.catch_st, Ot.then_er, Ot.turn_er, and_self, vl_v, ow_o, gt_zero, gt_succ, pt_zero, pt_succ, kil_nil, kil_cons, Rs.bind_ok, Rs.to_ok, Rs.calm_ok, Ot.then_nx, Ot.then_rt, Ot.then_bk, Ot.then_ct, Ot.turn_nx, Ot.turn_ct, Ot.turn_bk, Ot.turn_rt, chg, asInt_int, isOwn_v, isOwn_o, isOwn_none, g_nm, g_tp, g_n, g_c, List.map_cons, List.map_nil, List.length_cons, List.length_nil, List.cons_append, List.nil_append, List.replicate_succ, List.replicate_zero, Nat.reduceSub, Nat.reduceAdd, Nat.reduceLeDiff, Nat.le_refl, Nat.zero_le, Nat.sub_self, Nat.reduceEqDiff, if_true, if_false, ite_true, ite_false, Bool.false_eq_true, decide_true, decide_false, beq_self_eq_true, List.any_cons, List.any_nil, Bool.or_false, Bool.false_or, Bool.or_true, Bool.and_true, Bool.true_and, Bool.false_and, Bool.and_false, Bool.not_true, Bool.not_false, reduceIte, Int.reduceLT, Int.reduceLE, Int.reduceNeg, Int.reducePow, Int.reduceToNat, Int.reduceSub, Int.reduceAdd, Int.reduceMul, decide_eq_true_eq, Int.toNat_natCast, okR, run_eq, out_nx, out_rt, beqT, beqF, and_self, Bool.true_or, Bool.or_self, b_addi, b_adds, b_addl, b_addt, b_sub, b_mul, b_div, b_mod, b_pow, c_eq, c_ne, c_lt, c_ltt, k_mn, nd_n, nd_b, nd_i, nd_s, nd_l, nd_t, nd_0, nd_c, c_le, c_gt, c_ge, c_is0, c_isi, c_iss, c_isl, c_ist, c_isb, c_no0, c_noi, c_nos, c_nol, c_not, c_nob, c_in, c_ni, u_n, u_b, u_i, u_s, u_l, u_t, f_lenl, f_lent, f_lens, f_ll, f_lt, f_tl, f_tt, f_int, f_bool, f_str, f_max2, f_min2, f_max, f_min, f_sum, f_sumt, l_s, c_les, g_ai, z_ll, z_lt, z_tl, z_tt, min_ints, min_t, mx_ints, mx_t, s_l, s_t, l_l, l_t, a_l, e_l, j_l, j_t, m_x, isn_i, isn_b, isn_s, isn_l, isn_t, isn_n, evb1, evb2, evc0, evc1, andB1, andB2, fl_n, fl_b, fl_i, fl_s, fl_t, fb_0, fb_i, fb_b, fb_s, b_rep, asBool_bool, n_10, Nat.reduceLT, tx_s, eqD_int, eqD_str, eqD_bool, eqD_nil_int, n_10, Nat.reduceLT, n_10, Nat.reduceLT, n_10, Nat.reduceLT, n_10, Nat.reduceLT, n_10, Nat.reduceLT, n_10, Nat.reduceLT, q_ev0, q_ev1, q_ev2, q_ev3, q_ev4, q_ev5, q_ev6, q_ev7, q_ev8, q_ev9, q_ev10, q_ev11, q_ev12, q_ev13, q_ev14, q_ev15, q_ev16, q_ev17, q_ev18, q_ev19, q_ev20, q_ev21, q_ev22, q_ev23, q_ev24, q_ev25, q_ev26, q_ev27, q_ev28, q_ev29, q_ev30, q_ev31, q_ev32, q_ev33, q_ev34, q_ev35, q_ev36, q_evs0, q_evs1, q_evo0, q_evo1, q_evw0, q_evw1, q_evw2, q_evw3, q_evw4, q_evw5, q_evw6, q_evw7, q_ex0, q_ex1, q_ex2, q_ex3, q_ex4, q_ex5, q_ex6, q_ex7, q_ex8, q_ex9, q_ex10, q_ex11, q_ex12, q_ex13, q_ex14, q_ex15, q_ex16, q_ex17, q_ex18, q_ex19, q_ex20, q_ex21, q_ex22, q_ex23, q_ex24, q_ex25, q_exs0, q_exs1, q_exs2, q_exs3, n_10, Nat.reduceLT, fn_rotated_0, fn_turn_print_0, fn_cut_print_0, fn_cut_print_1, gn_check_size_0, fn_join_prints_0, fn_join_prints_1, fn_work_and_turn_0, fn_work_and_turn_1, fn_work_and_tumble_0, fn_work_and_tumble_1, fn_printing_method_0, fn__law_same_0, fn__law_print_0, fn__law_print_1, fn__law_told_0, fn__law_told_1, fn__law_wider_0, fn_law_0, fn_law_1, fn_law_2, fn_law_3, fn_law_4, fn_law_5, fn_law_6, fn_law_7, fn_law_8, List.length_map]
  by_cases h : k < ns.length
  · have h1 : ((k : Int) < (ns.length : Int)) := by omega
    simp (implicitDefEqProofs := false) only [h1, out_er, r_x, r_call, r_cv, r_ife, pick_c, isFn_fn, h_fld, h_var, h_non, h_bl, h_int, h_str, h_cmp, h_bo, h_nt, h_ife, h_ret, h_ifr, fld_1, cmpH_ss, cmpH_ii, par_2, par_3, f0_s, f0_i, eq_self, fl_all1, zip_1, Rs.toX_ok, Rs.toX_er, Rs.toX_st, Ot.catch_nx, Ot.catch_rt, Ot.catch_bk, Ot.catch_ct, Ot.catch_er, Ot.catch_st, Ot.then_er, Ot.turn_er, and_self, vl_v, ow_o, gt_zero, gt_succ, pt_zero, pt_succ, kil_nil, kil_cons, Rs.bind_ok, Rs.to_ok, Rs.calm_ok, Ot.then_nx, Ot.then_rt, Ot.then_bk, Ot.then_ct, Ot.turn_nx, Ot.turn_ct, Ot.turn_bk, Ot.turn_rt, chg, asInt_int, isOwn_v, isOwn_o, isOwn_none, g_nm, g_tp, g_n, g_c, List.map_cons, List.map_nil, List.length_cons, List.length_nil, List.cons_append, List.nil_append, List.replicate_succ, List.replicate_zero, Nat.reduceSub, Nat.reduceAdd, Nat.reduceLeDiff, Nat.le_refl, Nat.zero_le, Nat.sub_self, Nat.reduceEqDiff, if_true, if_false, ite_true, ite_false, Bool.false_eq_true, decide_true, decide_false, beq_self_eq_true, List.any_cons, List.any_nil, Bool.or_false, Bool.false_or, Bool.or_true, Bool.and_true, Bool.true_and, Bool.false_and, Bool.and_false, Bool.not_true, Bool.not_false, reduceIte, Int.reduceLT, Int.reduceLE, Int.reduceNeg, Int.reducePow, Int.reduceToNat, Int.reduceSub, Int.reduceAdd, Int.reduceMul, decide_eq_true_eq, Int.toNat_natCast, okR, run_eq, out_nx, out_rt, beqT, beqF, and_self, Bool.true_or, Bool.or_self, b_addi, b_adds, b_addl, b_addt, b_sub, b_mul, b_div, b_mod, b_pow, c_eq, c_ne, c_lt, c_ltt, k_mn, nd_n, nd_b, nd_i, nd_s, nd_l, nd_t, nd_0, nd_c, c_le, c_gt, c_ge, c_is0, c_isi, c_iss, c_isl, c_ist, c_isb, c_no0, c_noi, c_nos, c_nol, c_not, c_nob, c_in, c_ni, u_n, u_b, u_i, u_s, u_l, u_t, f_lenl, f_lent, f_lens, f_ll, f_lt, f_tl, f_tt, f_int, f_bool, f_str, f_max2, f_min2, f_max, f_min, f_sum, f_sumt, l_s, c_les, g_ai, z_ll, z_lt, z_tl, z_tt, min_ints, min_t, mx_ints, mx_t, s_l, s_t, l_l, l_t, a_l, e_l, j_l, j_t, m_x, isn_i, isn_b, isn_s, isn_l, isn_t, isn_n, evb1, evb2, evc0, evc1, andB1, andB2, fl_n, fl_b, fl_i, fl_s, fl_t, fb_0, fb_i, fb_b, fb_s, b_rep, asBool_bool, n_10, Nat.reduceLT, tx_s, eqD_int, eqD_str, eqD_bool, eqD_nil_int, n_10, Nat.reduceLT, n_10, Nat.reduceLT, n_10, Nat.reduceLT, n_10, Nat.reduceLT, n_10, Nat.reduceLT, n_10, Nat.reduceLT, q_ev0, q_ev1, q_ev2, q_ev3, q_ev4, q_ev5, q_ev6, q_ev7, q_ev8, q_ev9, q_ev10, q_ev11, q_ev12, q_ev13, q_ev14, q_ev15, q_ev16, q_ev17, q_ev18, q_ev19, q_ev20, q_ev21, q_ev22, q_ev23, q_ev24, q_ev25, q_ev26, q_ev27, q_ev28, q_ev29, q_ev30, q_ev31, q_ev32, q_ev33, q_ev34, q_ev35, q_ev36, q_evs0, q_evs1, q_evo0, q_evo1, q_evw0, q_evw1, q_evw2, q_evw3, q_evw4, q_evw5, q_evw6, q_evw7, q_ex0, q_ex1, q_ex2, q_ex3, q_ex4, q_ex5, q_ex6, q_ex7, q_ex8, q_ex9, q_ex10, q_ex11, q_ex12, q_ex13, q_ex14, q_ex15, q_ex16, q_ex17, q_ex18, q_ex19, q_ex20, q_ex21, q_ex22, q_ex23, q_ex24, q_ex25, q_exs0, q_exs1, q_exs2, q_exs3, n_10, Nat.reduceLT, fn_rotated_0, fn_turn_print_0, fn_cut_print_0, fn_cut_print_1, gn_check_size_0, fn_join_prints_0, fn_join_prints_1, fn_work_and_turn_0, fn_work_and_turn_1, fn_work_and_tumble_0, fn_work_and_tumble_1, fn_printing_method_0, fn__law_same_0, fn__law_print_0, fn__law_print_1, fn__law_told_0, fn__law_told_1, fn__law_wider_0, fn_law_0, fn_law_1, fn_law_2, fn_law_3, fn_law_4, fn_law_5, fn_law_6, fn_law_7, fn_law_8]
    have e : at' (ns.map fun i => (.int i : D)) (k : Int) = some (.int (ns.getD k 0)) := by
      unfold at'
      rw [if_pos (Int.natCast_nonneg k), Int.toNat_natCast, List.getElem?_map, List.getD_eq_getElem?_getD, List.getElem?_eq_getElem h]
      rfl
    simp (implicitDefEqProofs := false) only [ixD, e, out_er, r_x, r_call, r_cv, r_ife, pick_c, isFn_fn, h_fld, h_var, h_non, h_bl, h_int, h_str, h_cmp, h_bo, h_nt, h_ife, h_ret, h_ifr, fld_1, cmpH_ss, cmpH_ii, par_2, par_3, f0_s, f0_i, eq_self, fl_all1, zip_1, Rs.toX_ok, Rs.toX_er, Rs.toX_st, Ot.catch_nx, Ot.catch_rt, Ot.catch_bk, Ot.catch_ct, Ot.catch_er, Ot.catch_st, Ot.then_er, Ot.turn_er, and_self, vl_v, ow_o, gt_zero, gt_succ, pt_zero, pt_succ, kil_nil, kil_cons, Rs.bind_ok, Rs.to_ok, Rs.calm_ok, Ot.then_nx, Ot.then_rt, Ot.then_bk, Ot.then_ct, Ot.turn_nx, Ot.turn_ct, Ot.turn_bk, Ot.turn_rt, chg, asInt_int, isOwn_v, isOwn_o, isOwn_none, g_nm, g_tp, g_n, g_c, List.map_cons, List.map_nil, List.length_cons, List.length_nil, List.cons_append, List.nil_append, List.replicate_succ, List.replicate_zero, Nat.reduceSub, Nat.reduceAdd, Nat.reduceLeDiff, Nat.le_refl, Nat.zero_le, Nat.sub_self, Nat.reduceEqDiff, if_true, if_false, ite_true, ite_false, Bool.false_eq_true, decide_true, decide_false, beq_self_eq_true, List.any_cons, List.any_nil, Bool.or_false, Bool.false_or, Bool.or_true, Bool.and_true, Bool.true_and, Bool.false_and, Bool.and_false, Bool.not_true, Bool.not_false, reduceIte, Int.reduceLT, Int.reduceLE, Int.reduceNeg, Int.reducePow, Int.reduceToNat, Int.reduceSub, Int.reduceAdd, Int.reduceMul, decide_eq_true_eq, Int.toNat_natCast, okR, run_eq, out_nx, out_rt, beqT, beqF, and_self, Bool.true_or, Bool.or_self, b_addi, b_adds, b_addl, b_addt, b_sub, b_mul, b_div, b_mod, b_pow, c_eq, c_ne, c_lt, c_ltt, k_mn, nd_n, nd_b, nd_i, nd_s, nd_l, nd_t, nd_0, nd_c, c_le, c_gt, c_ge, c_is0, c_isi, c_iss, c_isl, c_ist, c_isb, c_no0, c_noi, c_nos, c_nol, c_not, c_nob, c_in, c_ni, u_n, u_b, u_i, u_s, u_l, u_t, f_lenl, f_lent, f_lens, f_ll, f_lt, f_tl, f_tt, f_int, f_bool, f_str, f_max2, f_min2, f_max, f_min, f_sum, f_sumt, l_s, c_les, g_ai, z_ll, z_lt, z_tl, z_tt, min_ints, min_t, mx_ints, mx_t, s_l, s_t, l_l, l_t, a_l, e_l, j_l, j_t, m_x, isn_i, isn_b, isn_s, isn_l, isn_t, isn_n, evb1, evb2, evc0, evc1, andB1, andB2, fl_n, fl_b, fl_i, fl_s, fl_t, fb_0, fb_i, fb_b, fb_s, b_rep, asBool_bool, n_10, Nat.reduceLT, tx_s, eqD_int, eqD_str, eqD_bool, eqD_nil_int, n_10, Nat.reduceLT, n_10, Nat.reduceLT, n_10, Nat.reduceLT, n_10, Nat.reduceLT, n_10, Nat.reduceLT, n_10, Nat.reduceLT, q_ev0, q_ev1, q_ev2, q_ev3, q_ev4, q_ev5, q_ev6, q_ev7, q_ev8, q_ev9, q_ev10, q_ev11, q_ev12, q_ev13, q_ev14, q_ev15, q_ev16, q_ev17, q_ev18, q_ev19, q_ev20, q_ev21, q_ev22, q_ev23, q_ev24, q_ev25, q_ev26, q_ev27, q_ev28, q_ev29, q_ev30, q_ev31, q_ev32, q_ev33, q_ev34, q_ev35, q_ev36, q_evs0, q_evs1, q_evo0, q_evo1, q_evw0, q_evw1, q_evw2, q_evw3, q_evw4, q_evw5, q_evw6, q_evw7, q_ex0, q_ex1, q_ex2, q_ex3, q_ex4, q_ex5, q_ex6, q_ex7, q_ex8, q_ex9, q_ex10, q_ex11, q_ex12, q_ex13, q_ex14, q_ex15, q_ex16, q_ex17, q_ex18, q_ex19, q_ex20, q_ex21, q_ex22, q_ex23, q_ex24, q_ex25, q_exs0, q_exs1, q_exs2, q_exs3, n_10, Nat.reduceLT, fn_rotated_0, fn_turn_print_0, fn_cut_print_0, fn_cut_print_1, gn_check_size_0, fn_join_prints_0, fn_join_prints_1, fn_work_and_turn_0, fn_work_and_turn_1, fn_work_and_tumble_0, fn_work_and_tumble_1, fn_printing_method_0, fn__law_same_0, fn__law_print_0, fn__law_print_1, fn__law_told_0, fn__law_told_1, fn__law_wider_0, fn_law_0, fn_law_1, fn_law_2, fn_law_3, fn_law_4, fn_law_5, fn_law_6, fn_law_7, fn_law_8]
  · have h1 : ¬ ((k : Int) < (ns.length : Int)) := by omega
    simp (implicitDefEqProofs := false) only [h1, out_er, r_x, r_call, r_cv, r_ife, pick_c, isFn_fn, h_fld, h_var, h_non, h_bl, h_int, h_str, h_cmp, h_bo, h_nt, h_ife, h_ret, h_ifr, fld_1, cmpH_ss, cmpH_ii, par_2, par_3, f0_s, f0_i, eq_self, fl_all1, zip_1, Rs.toX_ok, Rs.toX_er, Rs.toX_st, Ot.catch_nx, Ot.catch_rt, Ot.catch_bk, Ot.catch_ct, Ot.catch_er, Ot.catch_st, Ot.then_er, Ot.turn_er, and_self, vl_v, ow_o, gt_zero, gt_succ, pt_zero, pt_succ, kil_nil, kil_cons, Rs.bind_ok, Rs.to_ok, Rs.calm_ok, Ot.then_nx, Ot.then_rt, Ot.then_bk, Ot.then_ct, Ot.turn_nx, Ot.turn_ct, Ot.turn_bk, Ot.turn_rt, chg, asInt_int, isOwn_v, isOwn_o, isOwn_none, g_nm, g_tp, g_n, g_c, List.map_cons, List.map_nil, List.length_cons, List.length_nil, List.cons_append, List.nil_append, List.replicate_succ, List.replicate_zero, Nat.reduceSub, Nat.reduceAdd, Nat.reduceLeDiff, Nat.le_refl, Nat.zero_le, Nat.sub_self, Nat.reduceEqDiff, if_true, if_false, ite_true, ite_false, Bool.false_eq_true, decide_true, decide_false, beq_self_eq_true, List.any_cons, List.any_nil, Bool.or_false, Bool.false_or, Bool.or_true, Bool.and_true, Bool.true_and, Bool.false_and, Bool.and_false, Bool.not_true, Bool.not_false, reduceIte, Int.reduceLT, Int.reduceLE, Int.reduceNeg, Int.reducePow, Int.reduceToNat, Int.reduceSub, Int.reduceAdd, Int.reduceMul, decide_eq_true_eq, Int.toNat_natCast, okR, run_eq, out_nx, out_rt, beqT, beqF, and_self, Bool.true_or, Bool.or_self, b_addi, b_adds, b_addl, b_addt, b_sub, b_mul, b_div, b_mod, b_pow, c_eq, c_ne, c_lt, c_ltt, k_mn, nd_n, nd_b, nd_i, nd_s, nd_l, nd_t, nd_0, nd_c, c_le, c_gt, c_ge, c_is0, c_isi, c_iss, c_isl, c_ist, c_isb, c_no0, c_noi, c_nos, c_nol, c_not, c_nob, c_in, c_ni, u_n, u_b, u_i, u_s, u_l, u_t, f_lenl, f_lent, f_lens, f_ll, f_lt, f_tl, f_tt, f_int, f_bool, f_str, f_max2, f_min2, f_max, f_min, f_sum, f_sumt, l_s, c_les, g_ai, z_ll, z_lt, z_tl, z_tt, min_ints, min_t, mx_ints, mx_t, s_l, s_t, l_l, l_t, a_l, e_l, j_l, j_t, m_x, isn_i, isn_b, isn_s, isn_l, isn_t, isn_n, evb1, evb2, evc0, evc1, andB1, andB2, fl_n, fl_b, fl_i, fl_s, fl_t, fb_0, fb_i, fb_b, fb_s, b_rep, asBool_bool, n_10, Nat.reduceLT, tx_s, eqD_int, eqD_str, eqD_bool, eqD_nil_int, n_10, Nat.reduceLT, n_10, Nat.reduceLT, n_10, Nat.reduceLT, n_10, Nat.reduceLT, n_10, Nat.reduceLT, n_10, Nat.reduceLT, q_ev0, q_ev1, q_ev2, q_ev3, q_ev4, q_ev5, q_ev6, q_ev7, q_ev8, q_ev9, q_ev10, q_ev11, q_ev12, q_ev13, q_ev14, q_ev15, q_ev16, q_ev17, q_ev18, q_ev19, q_ev20, q_ev21, q_ev22, q_ev23, q_ev24, q_ev25, q_ev26, q_ev27, q_ev28, q_ev29, q_ev30, q_ev31, q_ev32, q_ev33, q_ev34, q_ev35, q_ev36, q_evs0, q_evs1, q_evo0, q_evo1, q_evw0, q_evw1, q_evw2, q_evw3, q_evw4, q_evw5, q_evw6, q_evw7, q_ex0, q_ex1, q_ex2, q_ex3, q_ex4, q_ex5, q_ex6, q_ex7, q_ex8, q_ex9, q_ex10, q_ex11, q_ex12, q_ex13, q_ex14, q_ex15, q_ex16, q_ex17, q_ex18, q_ex19, q_ex20, q_ex21, q_ex22, q_ex23, q_ex24, q_ex25, q_exs0, q_exs1, q_exs2, q_exs3, n_10, Nat.reduceLT, fn_rotated_0, fn_turn_print_0, fn_cut_print_0, fn_cut_print_1, gn_check_size_0, fn_join_prints_0, fn_join_prints_1, fn_work_and_turn_0, fn_work_and_turn_1, fn_work_and_tumble_0, fn_work_and_tumble_1, fn_printing_method_0, fn__law_same_0, fn__law_print_0, fn__law_print_1, fn__law_told_0, fn__law_told_1, fn__law_wider_0, fn_law_0, fn_law_1, fn_law_2, fn_law_3, fn_law_4, fn_law_5, fn_law_6, fn_law_7, fn_law_8]
    rw [List.getD_eq_getElem?_getD, List.getElem?_eq_none (by omega)]
    rfl
theorem draws_loop (n : Nat) (hn : n ≤ 1000) (c : Int) (b : Bool) : ∃ (c' : Int) (l : List Int), forR (.nm 4) [1, 4, 5] (exs c__law_draws b__law_draws_0) ((List.range n).map fun (k : Nat) => (.int (k : Int) : D)) [some (.v (.int c)), none, some (.o (.list [])), some (.v (.bool b)), none, none] =
    .nx [some (.v (.int c')), none, some (.o (.list (l.map fun i => .int i))), some (.v (.bool b)), none, none] ∧ l.length = n ∧ ∀ x ∈ l, (0 : Int) ≤ x := by
  obtain ⟨e', k1, c', l, k2, k3, k4⟩ := forR_inv (t := .nm 4) (kl := [1, 4, 5]) (body := exs c__law_draws b__law_draws_0) (i := fun (k : Nat) => (.int (k : Int) : D)) (fun k e => ∃ (c : Int) (l : List Int), l.length = k ∧ (∀ x ∈ l, 0 ≤ x) ∧ e = [some (.v (.int c)), none, some (.o (.list (l.map fun i => .int i))), some (.v (.bool b)), none, none])
    (List.range n) 0 [some (.v (.int c)), none, some (.o (.list [])), some (.v (.bool b)), none, none] ⟨c, [], rfl, by simp, rfl⟩ fun k x e hx he => by
      obtain ⟨c, l, hl, hp, rfl⟩ := he
      obtain ⟨hx1, hx2⟩ := List.getElem?_eq_some_iff.mp hx
      simp (implicitDefEqProofs := false) only [List.length_range] at hx1
      have hlt : l.length < 16777216 := by omega
      refine ⟨_, rfl, ?_⟩
      cases b with
      | true =>
        refine ⟨[some (.v (.int (c / 1009))), none, some (.o (.list ((l ++ [c % 1009]).map fun i => .int i))), some (.v (.bool true)), none, none], fun f => ?_, c / 1009, l ++ [c % 1009], by simp; omega, fun y hy => ?_, rfl⟩
        · simp (implicitDefEqProofs := false) only [b__law_draws_0, out_er, r_x, r_call, r_cv, r_ife, pick_c, isFn_fn, h_fld, h_var, h_non, h_bl, h_int, h_str, h_cmp, h_bo, h_nt, h_ife, h_ret, h_ifr, fld_1, cmpH_ss, cmpH_ii, par_2, par_3, f0_s, f0_i, eq_self, fl_all1, zip_1, Rs.toX_ok, Rs.toX_er, Rs.toX_st, Ot.catch_nx, Ot.catch_rt, Ot.catch_bk, Ot.catch_ct, Ot.catch_er, Ot.catch_st, Ot.then_er, Ot.turn_er, and_self, vl_v, ow_o, gt_zero, gt_succ, pt_zero, pt_succ, kil_nil, kil_cons, Rs.bind_ok, Rs.to_ok, Rs.calm_ok, Ot.then_nx, Ot.then_rt, Ot.then_bk, Ot.then_ct, Ot.turn_nx, Ot.turn_ct, Ot.turn_bk, Ot.turn_rt, chg, asInt_int, isOwn_v, isOwn_o, isOwn_none, g_nm, g_tp, g_n, g_c, List.map_cons, List.map_nil, List.length_cons, List.length_nil, List.cons_append, List.nil_append, List.replicate_succ, List.replicate_zero, Nat.reduceSub, Nat.reduceAdd, Nat.reduceLeDiff, Nat.le_refl, Nat.zero_le, Nat.sub_self, Nat.reduceEqDiff, if_true, if_false, ite_true, ite_false, Bool.false_eq_true, decide_true, decide_false, beq_self_eq_true, List.any_cons, List.any_nil, Bool.or_false, Bool.false_or, Bool.or_true, Bool.and_true, Bool.true_and, Bool.false_and, Bool.and_false, Bool.not_true, Bool.not_false, reduceIte, Int.reduceLT, Int.reduceLE, Int.reduceNeg, Int.reducePow, Int.reduceToNat, Int.reduceSub, Int.reduceAdd, Int.reduceMul, decide_eq_true_eq, Int.toNat_natCast, okR, run_eq, out_nx, out_rt, beqT, beqF, and_self, Bool.true_or, Bool.or_self, b_addi, b_adds, b_addl, b_addt, b_sub, b_mul, b_div, b_mod, b_pow, c_eq, c_ne, c_lt, c_ltt, k_mn, nd_n, nd_b, nd_i, nd_s, nd_l, nd_t, nd_0, nd_c, c_le, c_gt, c_ge, c_is0, c_isi, c_iss, c_isl, c_ist, c_isb, c_no0, c_noi, c_nos, c_nol, c_not, c_nob, c_in, c_ni, u_n, u_b, u_i, u_s, u_l, u_t, f_lenl, f_lent, f_lens, f_ll, f_lt, f_tl, f_tt, f_int, f_bool, f_str, f_max2, f_min2, f_max, f_min, f_sum, f_sumt, l_s, c_les, g_ai, z_ll, z_lt, z_tl, z_tt, min_ints, min_t, mx_ints, mx_t, s_l, s_t, l_l, l_t, a_l, e_l, j_l, j_t, m_x, isn_i, isn_b, isn_s, isn_l, isn_t, isn_n, evb1, evb2, evc0, evc1, andB1, andB2, fl_n, fl_b, fl_i, fl_s, fl_t, fb_0, fb_i, fb_b, fb_s, b_rep, asBool_bool, n_10, Nat.reduceLT, tx_s, eqD_int, eqD_str, eqD_bool, eqD_nil_int, n_10, Nat.reduceLT, n_10, Nat.reduceLT, n_10, Nat.reduceLT, n_10, Nat.reduceLT, n_10, Nat.reduceLT, n_10, Nat.reduceLT, q_ev0, q_ev1, q_ev2, q_ev3, q_ev4, q_ev5, q_ev6, q_ev7, q_ev8, q_ev9, q_ev10, q_ev11, q_ev12, q_ev13, q_ev14, q_ev15, q_ev16, q_ev17, q_ev18, q_ev19, q_ev20, q_ev21, q_ev22, q_ev23, q_ev24, q_ev25, q_ev26, q_ev27, q_ev28, q_ev29, q_ev30, q_ev31, q_ev32, q_ev33, q_ev34, q_ev35, q_ev36, q_evs0, q_evs1, q_evo0, q_evo1, q_evw0, q_evw1, q_evw2, q_evw3, q_evw4, q_evw5, q_evw6, q_evw7, q_ex0, q_ex1, q_ex2, q_ex3, q_ex4, q_ex5, q_ex6, q_ex7, q_ex8, q_ex9, q_ex10, q_ex11, q_ex12, q_ex13, q_ex14, q_ex15, q_ex16, q_ex17, q_ex18, q_ex19, q_ex20, q_ex21, q_ex22, q_ex23, q_ex24, q_ex25, q_exs0, q_exs1, q_exs2, q_exs3, n_10, Nat.reduceLT, fn_rotated_0, fn_turn_print_0, fn_cut_print_0, fn_cut_print_1, gn_check_size_0, fn_join_prints_0, fn_join_prints_1, fn_work_and_turn_0, fn_work_and_turn_1, fn_work_and_tumble_0, fn_work_and_tumble_1, fn_printing_method_0, fn__law_same_0, fn__law_print_0, fn__law_print_1, fn__law_told_0, fn__law_told_1, fn__law_wider_0, fn_law_0, fn_law_1, fn_law_2, fn_law_3, fn_law_4, fn_law_5, fn_law_6, fn_law_7, fn_law_8, List.length_map, hlt, List.map_append]
        · rcases List.mem_append.mp hy with h | h
          · exact hp y h
          · simp at h; subst h; omega
      | false =>
        generalize hm : (c * 48271 + (x : Int) * 69621) % 2147483647 = m
        have m1 : -18446744073709551616 < m := by omega
        have m2 : m < 18446744073709551616 := by omega
        refine ⟨[some (.v (.int c)), none, some (.o (.list ((l ++ [(m * m + c * 31 + (x : Int)) % 1000003]).map fun i => .int i))), some (.v (.bool false)), none, none], fun f => ?_, c, l ++ [(m * m + c * 31 + (x : Int)) % 1000003], by simp; omega, fun y hy => ?_, rfl⟩
        · simp (implicitDefEqProofs := false) only [b__law_draws_0, out_er, r_x, r_call, r_cv, r_ife, pick_c, isFn_fn, h_fld, h_var, h_non, h_bl, h_int, h_str, h_cmp, h_bo, h_nt, h_ife, h_ret, h_ifr, fld_1, cmpH_ss, cmpH_ii, par_2, par_3, f0_s, f0_i, eq_self, fl_all1, zip_1, Rs.toX_ok, Rs.toX_er, Rs.toX_st, Ot.catch_nx, Ot.catch_rt, Ot.catch_bk, Ot.catch_ct, Ot.catch_er, Ot.catch_st, Ot.then_er, Ot.turn_er, and_self, vl_v, ow_o, gt_zero, gt_succ, pt_zero, pt_succ, kil_nil, kil_cons, Rs.bind_ok, Rs.to_ok, Rs.calm_ok, Ot.then_nx, Ot.then_rt, Ot.then_bk, Ot.then_ct, Ot.turn_nx, Ot.turn_ct, Ot.turn_bk, Ot.turn_rt, chg, asInt_int, isOwn_v, isOwn_o, isOwn_none, g_nm, g_tp, g_n, g_c, List.map_cons, List.map_nil, List.length_cons, List.length_nil, List.cons_append, List.nil_append, List.replicate_succ, List.replicate_zero, Nat.reduceSub, Nat.reduceAdd, Nat.reduceLeDiff, Nat.le_refl, Nat.zero_le, Nat.sub_self, Nat.reduceEqDiff, if_true, if_false, ite_true, ite_false, Bool.false_eq_true, decide_true, decide_false, beq_self_eq_true, List.any_cons, List.any_nil, Bool.or_false, Bool.false_or, Bool.or_true, Bool.and_true, Bool.true_and, Bool.false_and, Bool.and_false, Bool.not_true, Bool.not_false, reduceIte, Int.reduceLT, Int.reduceLE, Int.reduceNeg, Int.reducePow, Int.reduceToNat, Int.reduceSub, Int.reduceAdd, Int.reduceMul, decide_eq_true_eq, Int.toNat_natCast, okR, run_eq, out_nx, out_rt, beqT, beqF, and_self, Bool.true_or, Bool.or_self, b_addi, b_adds, b_addl, b_addt, b_sub, b_mul, b_div, b_mod, b_pow, c_eq, c_ne, c_lt, c_ltt, k_mn, nd_n, nd_b, nd_i, nd_s, nd_l, nd_t, nd_0, nd_c, c_le, c_gt, c_ge, c_is0, c_isi, c_iss, c_isl, c_ist, c_isb, c_no0, c_noi, c_nos, c_nol, c_not, c_nob, c_in, c_ni, u_n, u_b, u_i, u_s, u_l, u_t, f_lenl, f_lent, f_lens, f_ll, f_lt, f_tl, f_tt, f_int, f_bool, f_str, f_max2, f_min2, f_max, f_min, f_sum, f_sumt, l_s, c_les, g_ai, z_ll, z_lt, z_tl, z_tt, min_ints, min_t, mx_ints, mx_t, s_l, s_t, l_l, l_t, a_l, e_l, j_l, j_t, m_x, isn_i, isn_b, isn_s, isn_l, isn_t, isn_n, evb1, evb2, evc0, evc1, andB1, andB2, fl_n, fl_b, fl_i, fl_s, fl_t, fb_0, fb_i, fb_b, fb_s, b_rep, asBool_bool, n_10, Nat.reduceLT, tx_s, eqD_int, eqD_str, eqD_bool, eqD_nil_int, n_10, Nat.reduceLT, n_10, Nat.reduceLT, n_10, Nat.reduceLT, n_10, Nat.reduceLT, n_10, Nat.reduceLT, n_10, Nat.reduceLT, q_ev0, q_ev1, q_ev2, q_ev3, q_ev4, q_ev5, q_ev6, q_ev7, q_ev8, q_ev9, q_ev10, q_ev11, q_ev12, q_ev13, q_ev14, q_ev15, q_ev16, q_ev17, q_ev18, q_ev19, q_ev20, q_ev21, q_ev22, q_ev23, q_ev24, q_ev25, q_ev26, q_ev27, q_ev28, q_ev29, q_ev30, q_ev31, q_ev32, q_ev33, q_ev34, q_ev35, q_ev36, q_evs0, q_evs1, q_evo0, q_evo1, q_evw0, q_evw1, q_evw2, q_evw3, q_evw4, q_evw5, q_evw6, q_evw7, q_ex0, q_ex1, q_ex2, q_ex3, q_ex4, q_ex5, q_ex6, q_ex7, q_ex8, q_ex9, q_ex10, q_ex11, q_ex12, q_ex13, q_ex14, q_ex15, q_ex16, q_ex17, q_ex18, q_ex19, q_ex20, q_ex21, q_ex22, q_ex23, q_ex24, q_ex25, q_exs0, q_exs1, q_exs2, q_exs3, n_10, Nat.reduceLT, fn_rotated_0, fn_turn_print_0, fn_cut_print_0, fn_cut_print_1, gn_check_size_0, fn_join_prints_0, fn_join_prints_1, fn_work_and_turn_0, fn_work_and_turn_1, fn_work_and_tumble_0, fn_work_and_tumble_1, fn_printing_method_0, fn__law_same_0, fn__law_print_0, fn__law_print_1, fn__law_told_0, fn__law_told_1, fn__law_wider_0, fn_law_0, fn_law_1, fn_law_2, fn_law_3, fn_law_4, fn_law_5, fn_law_6, fn_law_7, fn_law_8, List.length_map, hlt, List.map_append, hm, m1, m2]
        · rcases List.mem_append.mp hy with h | h
          · exact hp y h
          · simp at h; subst h; omega
  exact ⟨c', l, by rw [k1, k4], by simpa using k2, k3⟩
theorem draws_ok (c : Int) (n : Nat) (hn : n ≤ 1000) : ∃ l : List Int, l.length = n ∧ (∀ x ∈ l, 0 ≤ x) ∧ d__law_draws [.int c, .int n] = .ok (.list (l.map fun i => .int i)) := by
  have h1 : (-16777216 : Int) ≤ (n : Int) := by omega
  have h2 : (n : Int) ≤ 16777216 := by omega
  obtain ⟨c', l, k1, k2, k3⟩ := draws_loop n hn c (decide ((1000000000000000000 : Int) ≤ c))
  refine ⟨l, k2, k3, ?_⟩
  simp (implicitDefEqProofs := false) only [d__law_draws, ir__law_draws, out_er, r_x, r_call, r_cv, r_ife, pick_c, isFn_fn, h_fld, h_var, h_non, h_bl, h_int, h_str, h_cmp, h_bo, h_nt, h_ife, h_ret, h_ifr, fld_1, cmpH_ss, cmpH_ii, par_2, par_3, f0_s, f0_i, eq_self, fl_all1, zip_1, Rs.toX_ok, Rs.toX_er, Rs.toX_st, Ot.catch_nx, Ot.catch_rt, Ot.catch_bk, Ot.catch_ct, Ot.catch_er, Ot.catch_st, Ot.then_er, Ot.turn_er, and_self, vl_v, ow_o, gt_zero, gt_succ, pt_zero, pt_succ, kil_nil, kil_cons, Rs.bind_ok, Rs.to_ok, Rs.calm_ok, Ot.then_nx, Ot.then_rt, Ot.then_bk, Ot.then_ct, Ot.turn_nx, Ot.turn_ct, Ot.turn_bk, Ot.turn_rt, chg, asInt_int, isOwn_v, isOwn_o, isOwn_none, g_nm, g_tp, g_n, g_c, List.map_cons, List.map_nil, List.length_cons, List.length_nil, List.cons_append, List.nil_append, List.replicate_succ, List.replicate_zero, Nat.reduceSub, Nat.reduceAdd, Nat.reduceLeDiff, Nat.le_refl, Nat.zero_le, Nat.sub_self, Nat.reduceEqDiff, if_true, if_false, ite_true, ite_false, Bool.false_eq_true, decide_true, decide_false, beq_self_eq_true, List.any_cons, List.any_nil, Bool.or_false, Bool.false_or, Bool.or_true, Bool.and_true, Bool.true_and, Bool.false_and, Bool.and_false, Bool.not_true, Bool.not_false, reduceIte, Int.reduceLT, Int.reduceLE, Int.reduceNeg, Int.reducePow, Int.reduceToNat, Int.reduceSub, Int.reduceAdd, Int.reduceMul, decide_eq_true_eq, Int.toNat_natCast, okR, run_eq, out_nx, out_rt, beqT, beqF, and_self, Bool.true_or, Bool.or_self, b_addi, b_adds, b_addl, b_addt, b_sub, b_mul, b_div, b_mod, b_pow, c_eq, c_ne, c_lt, c_ltt, k_mn, nd_n, nd_b, nd_i, nd_s, nd_l, nd_t, nd_0, nd_c, c_le, c_gt, c_ge, c_is0, c_isi, c_iss, c_isl, c_ist, c_isb, c_no0, c_noi, c_nos, c_nol, c_not, c_nob, c_in, c_ni, u_n, u_b, u_i, u_s, u_l, u_t, f_lenl, f_lent, f_lens, f_ll, f_lt, f_tl, f_tt, f_int, f_bool, f_str, f_max2, f_min2, f_max, f_min, f_sum, f_sumt, l_s, c_les, g_ai, z_ll, z_lt, z_tl, z_tt, min_ints, min_t, mx_ints, mx_t, s_l, s_t, l_l, l_t, a_l, e_l, j_l, j_t, m_x, isn_i, isn_b, isn_s, isn_l, isn_t, isn_n, evb1, evb2, evc0, evc1, andB1, andB2, fl_n, fl_b, fl_i, fl_s, fl_t, fb_0, fb_i, fb_b, fb_s, b_rep, asBool_bool, n_10, Nat.reduceLT, tx_s, eqD_int, eqD_str, eqD_bool, eqD_nil_int, n_10, Nat.reduceLT, n_10, Nat.reduceLT, n_10, Nat.reduceLT, n_10, Nat.reduceLT, n_10, Nat.reduceLT, n_10, Nat.reduceLT, q_ev0, q_ev1, q_ev2, q_ev3, q_ev4, q_ev5, q_ev6, q_ev7, q_ev8, q_ev9, q_ev10, q_ev11, q_ev12, q_ev13, q_ev14, q_ev15, q_ev16, q_ev17, q_ev18, q_ev19, q_ev20, q_ev21, q_ev22, q_ev23, q_ev24, q_ev25, q_ev26, q_ev27, q_ev28, q_ev29, q_ev30, q_ev31, q_ev32, q_ev33, q_ev34, q_ev35, q_ev36, q_evs0, q_evs1, q_evo0, q_evo1, q_evw0, q_evw1, q_evw2, q_evw3, q_evw4, q_evw5, q_evw6, q_evw7, q_ex0, q_ex1, q_ex2, q_ex3, q_ex4, q_ex5, q_ex6, q_ex7, q_ex8, q_ex9, q_ex10, q_ex11, q_ex12, q_ex13, q_ex14, q_ex15, q_ex16, q_ex17, q_ex18, q_ex19, q_ex20, q_ex21, q_ex22, q_ex23, q_ex24, q_ex25, q_exs0, q_exs1, q_exs2, q_exs3, n_10, Nat.reduceLT, fn_rotated_0, fn_turn_print_0, fn_cut_print_0, fn_cut_print_1, gn_check_size_0, fn_join_prints_0, fn_join_prints_1, fn_work_and_turn_0, fn_work_and_turn_1, fn_work_and_tumble_0, fn_work_and_tumble_1, fn_printing_method_0, fn__law_same_0, fn__law_print_0, fn__law_print_1, fn__law_told_0, fn__law_told_1, fn__law_wider_0, fn_law_0, fn_law_1, fn_law_2, fn_law_3, fn_law_4, fn_law_5, fn_law_6, fn_law_7, fn_law_8, h1, h2, rng0, k1]
theorem cell_eqI (ns : List Int) (i : Int) (hi : 0 ≤ i) (hk : ns.length ≤ 63) : d__law_cell [.list (ns.map fun i => .int i), .int i] = .ok (.int (ns.getD i.toNat 0)) := by
  have := cell_eq ns i.toNat hk
  rwa [Int.toNat_of_nonneg hi] at this
end Bk
namespace Bk
open PySem PySem.Spec PyProof.Rows L2
theorem eqvAll_map {α : Type} [DecidableEq α] {f : α → D} (h : ∀ x y, PyData.eqv (f x) (f y) = decide (x = y)) : ∀ xs ys : List α, PyData.eqvAll (xs.map f) (ys.map f) = decide (xs = ys)
  | [], [] => by simp [PyData.eqvAll]
  | [], _ :: _ => by simp [PyData.eqvAll]
  | _ :: _, [] => by simp [PyData.eqvAll]
  | x :: xs, y :: ys => by
    rw [List.map_cons, List.map_cons, PyData.eqvAll, h, eqvAll_map h xs ys]
    by_cases h1 : x = y <;> by_cases h2 : xs = ys <;> simp [h1, h2]
abbrev Mk := Int × Bool
abbrev Rw := List Mk
abbrev Sd := List Rw
def mkD (m : Mk) : D := .tuple [.int m.1, .bool m.2]
def rowD (r : Rw) : D := .tuple (r.map mkD)
def sideD (s : Sd) : D := .tuple (s.map rowD)
def prD (p : Sd × Sd) : D := .tuple [sideD p.1, sideD p.2]
theorem mk_eqv (x y : Mk) : PyData.eqv (mkD x) (mkD y) = decide (x = y) := by
  obtain ⟨a, b⟩ := x
  obtain ⟨c, d⟩ := y
  simp only [mkD, PyData.eqv, PyData.eqvAll, Bool.and_true]
  by_cases h1 : a = c <;> by_cases h2 : b = d <;> simp [h1, h2]
theorem row_eqv (x y : Rw) : PyData.eqv (rowD x) (rowD y) = decide (x = y) := by
  rw [rowD, rowD, PyData.eqv, eqvAll_map mk_eqv]
theorem side_eqv (x y : Sd) : PyData.eqv (sideD x) (sideD y) = decide (x = y) := by
  rw [sideD, sideD, PyData.eqv, eqvAll_map row_eqv]
theorem pr_eqv (x y : Sd × Sd) : PyData.eqv (prD x) (prD y) = decide (x = y) := by
  obtain ⟨a, b⟩ := x
  obtain ⟨c, d⟩ := y
  simp only [prD, PyData.eqv, PyData.eqvAll, side_eqv, Bool.and_true]
  by_cases h1 : a = c <;> by_cases h2 : b = d <;> simp [h1, h2]
theorem mk_shp (n : Nat) (m : Mk) : shp (n + 1) (mkD m) = true := by simp [mkD, shp]
theorem row_shp (n : Nat) (m : Rw) : shp (n + 2) (rowD m) = true := by
  simp only [rowD, shp, List.all_map, List.all_eq_true]
  intro x _
  exact mk_shp n x
theorem side_shp (n : Nat) (m : Sd) : shp (n + 3) (sideD m) = true := by
  simp only [sideD, shp, List.all_map, List.all_eq_true]
  intro x _
  exact row_shp n x
theorem pr_shp (n : Nat) (m : Sd × Sd) : shp (n + 4) (prD m) = true := by
  simp only [prD, shp, List.all_cons, List.all_nil, side_shp, Bool.and_self]
theorem eqD_side (x y : Sd) : eqD (sideD x) (sideD y) = .ok (decide (x = y)) := by
  unfold eqD
  rw [side_shp 9, side_shp 9, side_eqv]
  rfl
theorem eqD_pr (x y : Sd × Sd) : eqD (prD x) (prD y) = .ok (decide (x = y)) := by
  unfold eqD
  rw [pr_shp 8, pr_shp 8, pr_eqv]
  rfl
def rot (s : Sd) : Sd := s.reverse.map fun r => r.reverse.map fun m => (m.1, !m.2)
theorem rot_rot (s : Sd) : rot (rot s) = s := by
  simp only [rot, ← List.map_reverse, List.reverse_reverse, List.map_map]
  rw [show (fun r : Rw => List.map (fun m : Mk => (m.1, !m.2)) (List.reverse r)) ∘ (fun r : Rw => List.map (fun m : Mk => (m.1, !m.2)) (List.reverse r)) = id from ?_, List.map_id]
  funext r
  simp only [Function.comp, ← List.map_reverse, List.reverse_reverse, List.map_map]
  rw [show (fun m : Mk => (m.1, !m.2)) ∘ (fun m : Mk => (m.1, !m.2)) = id from ?_, List.map_id]
  · rfl
  · funext m
    simp
theorem rot_inj {a b : Sd} (h : rot a = rot b) : a = b := by rw [← rot_rot a, h, rot_rot]
theorem rv_t (x : List D) : revD (.tuple x) = .ok (.tuple x.reverse) := rfl
theorem mark_ok (m : Mk) : d_rotated_mark [mkD m] = .ok (mkD (m.1, !m.2)) := by
  have h0 : ixD (mkD m) (.int 0) = .ok (.int m.1) := rfl
  have h1 : ixD (mkD m) (.int 1) = .ok (.bool m.2) := rfl
  simp (implicitDefEqProofs := false) only [out_er, r_x, r_call, r_cv, r_ife, pick_c, isFn_fn, h_fld, h_var, h_non, h_bl, h_int, h_str, h_cmp, h_bo, h_nt, h_ife, h_ret, h_ifr, fld_1, cmpH_ss, cmpH_ii, par_2, par_3, f0_s, f0_i, eq_self, fl_all1, zip_1, Rs.toX_ok, Rs.toX_er, Rs.toX_st, Ot.catch_nx, Ot.catch_rt, Ot.catch_bk, Ot.catch_ct, Ot.catch_er, Ot.catch_st, Ot.then_er, Ot.turn_er, and_self, vl_v, ow_o, gt_zero, gt_succ, pt_zero, pt_succ, kil_nil, kil_cons, Rs.bind_ok, Rs.to_ok, Rs.calm_ok, Ot.then_nx, Ot.then_rt, Ot.then_bk, Ot.then_ct, Ot.turn_nx, Ot.turn_ct, Ot.turn_bk, Ot.turn_rt, chg, asInt_int, isOwn_v, isOwn_o, isOwn_none, g_nm, g_tp, g_n, g_c, List.map_cons, List.map_nil, List.length_cons, List.length_nil, List.cons_append, List.nil_append, List.replicate_succ, List.replicate_zero, Nat.reduceSub, Nat.reduceAdd, Nat.reduceLeDiff, Nat.le_refl, Nat.zero_le, Nat.sub_self, Nat.reduceEqDiff, if_true, if_false, ite_true, ite_false, Bool.false_eq_true, decide_true, decide_false, beq_self_eq_true, List.any_cons, List.any_nil, Bool.or_false, Bool.false_or, Bool.or_true, Bool.and_true, Bool.true_and, Bool.false_and, Bool.and_false, Bool.not_true, Bool.not_false, reduceIte, Int.reduceLT, Int.reduceLE, Int.reduceNeg, Int.reducePow, Int.reduceToNat, Int.reduceSub, Int.reduceAdd, Int.reduceMul, decide_eq_true_eq, Int.toNat_natCast, okR, run_eq, out_nx, out_rt, beqT, beqF, and_self, Bool.true_or, Bool.or_self, b_addi, b_adds, b_addl, b_addt, b_sub, b_mul, b_div, b_mod, b_pow, c_eq, c_ne, c_lt, c_ltt, k_mn, nd_n, nd_b, nd_i, nd_s, nd_l, nd_t, nd_0, nd_c, c_le, c_gt, c_ge, c_is0, c_isi, c_iss, c_isl, c_ist, c_isb, c_no0, c_noi, c_nos, c_nol, c_not, c_nob, c_in, c_ni, u_n, u_b, u_i, u_s, u_l, u_t, f_lenl, f_lent, f_lens, f_ll, f_lt, f_tl, f_tt, f_int, f_bool, f_str, f_max2, f_min2, f_max, f_min, f_sum, f_sumt, l_s, c_les, g_ai, z_ll, z_lt, z_tl, z_tt, min_ints, min_t, mx_ints, mx_t, s_l, s_t, l_l, l_t, a_l, e_l, j_l, j_t, m_x, isn_i, isn_b, isn_s, isn_l, isn_t, isn_n, evb1, evb2, evc0, evc1, andB1, andB2, fl_n, fl_b, fl_i, fl_s, fl_t, fb_0, fb_i, fb_b, fb_s, b_rep, asBool_bool, n_10, Nat.reduceLT, tx_s, eqD_int, eqD_str, eqD_bool, eqD_nil_int, n_10, Nat.reduceLT, n_10, Nat.reduceLT, n_10, Nat.reduceLT, n_10, Nat.reduceLT, n_10, Nat.reduceLT, n_10, Nat.reduceLT, q_ev0, q_ev1, q_ev2, q_ev3, q_ev4, q_ev5, q_ev6, q_ev7, q_ev8, q_ev9, q_ev10, q_ev11, q_ev12, q_ev13, q_ev14, q_ev15, q_ev16, q_ev17, q_ev18, q_ev19, q_ev20, q_ev21, q_ev22, q_ev23, q_ev24, q_ev25, q_ev26, q_ev27, q_ev28, q_ev29, q_ev30, q_ev31, q_ev32, q_ev33, q_ev34, q_ev35, q_ev36, q_evs0, q_evs1, q_evo0, q_evo1, q_evw0, q_evw1, q_evw2, q_evw3, q_evw4, q_evw5, q_evw6, q_evw7, q_ex0, q_ex1, q_ex2, q_ex3, q_ex4, q_ex5, q_ex6, q_ex7, q_ex8, q_ex9, q_ex10, q_ex11, q_ex12, q_ex13, q_ex14, q_ex15, q_ex16, q_ex17, q_ex18, q_ex19, q_ex20, q_ex21, q_ex22, q_ex23, q_ex24, q_ex25, q_exs0, q_exs1, q_exs2, q_exs3, n_10, Nat.reduceLT, fn_rotated_0, fn_turn_print_0, fn_cut_print_0, fn_cut_print_1, gn_check_size_0, fn_join_prints_0, fn_join_prints_1, fn_work_and_turn_0, fn_work_and_turn_1, fn_work_and_tumble_0, fn_work_and_tumble_1, fn_printing_method_0, fn__law_same_0, fn__law_print_0, fn__law_print_1, fn__law_told_0, fn__law_told_1, fn__law_wider_0, fn_law_0, fn_law_1, fn_law_2, fn_law_3, fn_law_4, fn_law_5, fn_law_6, fn_law_7, fn_law_8, d_rotated_mark, ir_rotated_mark, h0, h1]
  rfl
theorem rotated_ok (s : Sd) : d_rotated [sideD s] = .ok (sideD (rot s)) := by
  have h0 : revD (sideD s) = .ok (.tuple (s.reverse.map rowD)) := by rw [sideD, rv_t, List.map_reverse]
  simp (implicitDefEqProofs := false) only [out_er, r_x, r_call, r_cv, r_ife, pick_c, isFn_fn, h_fld, h_var, h_non, h_bl, h_int, h_str, h_cmp, h_bo, h_nt, h_ife, h_ret, h_ifr, fld_1, cmpH_ss, cmpH_ii, par_2, par_3, f0_s, f0_i, eq_self, fl_all1, zip_1, Rs.toX_ok, Rs.toX_er, Rs.toX_st, Ot.catch_nx, Ot.catch_rt, Ot.catch_bk, Ot.catch_ct, Ot.catch_er, Ot.catch_st, Ot.then_er, Ot.turn_er, and_self, vl_v, ow_o, gt_zero, gt_succ, pt_zero, pt_succ, kil_nil, kil_cons, Rs.bind_ok, Rs.to_ok, Rs.calm_ok, Ot.then_nx, Ot.then_rt, Ot.then_bk, Ot.then_ct, Ot.turn_nx, Ot.turn_ct, Ot.turn_bk, Ot.turn_rt, chg, asInt_int, isOwn_v, isOwn_o, isOwn_none, g_nm, g_tp, g_n, g_c, List.map_cons, List.map_nil, List.length_cons, List.length_nil, List.cons_append, List.nil_append, List.replicate_succ, List.replicate_zero, Nat.reduceSub, Nat.reduceAdd, Nat.reduceLeDiff, Nat.le_refl, Nat.zero_le, Nat.sub_self, Nat.reduceEqDiff, if_true, if_false, ite_true, ite_false, Bool.false_eq_true, decide_true, decide_false, beq_self_eq_true, List.any_cons, List.any_nil, Bool.or_false, Bool.false_or, Bool.or_true, Bool.and_true, Bool.true_and, Bool.false_and, Bool.and_false, Bool.not_true, Bool.not_false, reduceIte, Int.reduceLT, Int.reduceLE, Int.reduceNeg, Int.reducePow, Int.reduceToNat, Int.reduceSub, Int.reduceAdd, Int.reduceMul, decide_eq_true_eq, Int.toNat_natCast, okR, run_eq, out_nx, out_rt, beqT, beqF, and_self, Bool.true_or, Bool.or_self, b_addi, b_adds, b_addl, b_addt, b_sub, b_mul, b_div, b_mod, b_pow, c_eq, c_ne, c_lt, c_ltt, k_mn, nd_n, nd_b, nd_i, nd_s, nd_l, nd_t, nd_0, nd_c, c_le, c_gt, c_ge, c_is0, c_isi, c_iss, c_isl, c_ist, c_isb, c_no0, c_noi, c_nos, c_nol, c_not, c_nob, c_in, c_ni, u_n, u_b, u_i, u_s, u_l, u_t, f_lenl, f_lent, f_lens, f_ll, f_lt, f_tl, f_tt, f_int, f_bool, f_str, f_max2, f_min2, f_max, f_min, f_sum, f_sumt, l_s, c_les, g_ai, z_ll, z_lt, z_tl, z_tt, min_ints, min_t, mx_ints, mx_t, s_l, s_t, l_l, l_t, a_l, e_l, j_l, j_t, m_x, isn_i, isn_b, isn_s, isn_l, isn_t, isn_n, evb1, evb2, evc0, evc1, andB1, andB2, fl_n, fl_b, fl_i, fl_s, fl_t, fb_0, fb_i, fb_b, fb_s, b_rep, asBool_bool, n_10, Nat.reduceLT, tx_s, eqD_int, eqD_str, eqD_bool, eqD_nil_int, n_10, Nat.reduceLT, n_10, Nat.reduceLT, n_10, Nat.reduceLT, n_10, Nat.reduceLT, n_10, Nat.reduceLT, n_10, Nat.reduceLT, q_ev0, q_ev1, q_ev2, q_ev3, q_ev4, q_ev5, q_ev6, q_ev7, q_ev8, q_ev9, q_ev10, q_ev11, q_ev12, q_ev13, q_ev14, q_ev15, q_ev16, q_ev17, q_ev18, q_ev19, q_ev20, q_ev21, q_ev22, q_ev23, q_ev24, q_ev25, q_ev26, q_ev27, q_ev28, q_ev29, q_ev30, q_ev31, q_ev32, q_ev33, q_ev34, q_ev35, q_ev36, q_evs0, q_evs1, q_evo0, q_evo1, q_evw0, q_evw1, q_evw2, q_evw3, q_evw4, q_evw5, q_evw6, q_evw7, q_ex0, q_ex1, q_ex2, q_ex3, q_ex4, q_ex5, q_ex6, q_ex7, q_ex8, q_ex9, q_ex10, q_ex11, q_ex12, q_ex13, q_ex14, q_ex15, q_ex16, q_ex17, q_ex18, q_ex19, q_ex20, q_ex21, q_ex22, q_ex23, q_ex24, q_ex25, q_exs0, q_exs1, q_exs2, q_exs3, n_10, Nat.reduceLT, fn_rotated_0, fn_turn_print_0, fn_cut_print_0, fn_cut_print_1, gn_check_size_0, fn_join_prints_0, fn_join_prints_1, fn_work_and_turn_0, fn_work_and_turn_1, fn_work_and_tumble_0, fn_work_and_tumble_1, fn_printing_method_0, fn__law_same_0, fn__law_print_0, fn__law_print_1, fn__law_told_0, fn__law_told_1, fn__law_wider_0, fn_law_0, fn_law_1, fn_law_2, fn_law_3, fn_law_4, fn_law_5, fn_law_6, fn_law_7, fn_law_8, d_rotated, ir_rotated, h0]
  rw [mapR_map (g := fun (r : Rw) => rowD (r.reverse.map fun m => (m.1, !m.2)))]
  · simp (implicitDefEqProofs := false) only [out_er, r_x, r_call, r_cv, r_ife, pick_c, isFn_fn, h_fld, h_var, h_non, h_bl, h_int, h_str, h_cmp, h_bo, h_nt, h_ife, h_ret, h_ifr, fld_1, cmpH_ss, cmpH_ii, par_2, par_3, f0_s, f0_i, eq_self, fl_all1, zip_1, Rs.toX_ok, Rs.toX_er, Rs.toX_st, Ot.catch_nx, Ot.catch_rt, Ot.catch_bk, Ot.catch_ct, Ot.catch_er, Ot.catch_st, Ot.then_er, Ot.turn_er, and_self, vl_v, ow_o, gt_zero, gt_succ, pt_zero, pt_succ, kil_nil, kil_cons, Rs.bind_ok, Rs.to_ok, Rs.calm_ok, Ot.then_nx, Ot.then_rt, Ot.then_bk, Ot.then_ct, Ot.turn_nx, Ot.turn_ct, Ot.turn_bk, Ot.turn_rt, chg, asInt_int, isOwn_v, isOwn_o, isOwn_none, g_nm, g_tp, g_n, g_c, List.map_cons, List.map_nil, List.length_cons, List.length_nil, List.cons_append, List.nil_append, List.replicate_succ, List.replicate_zero, Nat.reduceSub, Nat.reduceAdd, Nat.reduceLeDiff, Nat.le_refl, Nat.zero_le, Nat.sub_self, Nat.reduceEqDiff, if_true, if_false, ite_true, ite_false, Bool.false_eq_true, decide_true, decide_false, beq_self_eq_true, List.any_cons, List.any_nil, Bool.or_false, Bool.false_or, Bool.or_true, Bool.and_true, Bool.true_and, Bool.false_and, Bool.and_false, Bool.not_true, Bool.not_false, reduceIte, Int.reduceLT, Int.reduceLE, Int.reduceNeg, Int.reducePow, Int.reduceToNat, Int.reduceSub, Int.reduceAdd, Int.reduceMul, decide_eq_true_eq, Int.toNat_natCast, okR, run_eq, out_nx, out_rt, beqT, beqF, and_self, Bool.true_or, Bool.or_self, b_addi, b_adds, b_addl, b_addt, b_sub, b_mul, b_div, b_mod, b_pow, c_eq, c_ne, c_lt, c_ltt, k_mn, nd_n, nd_b, nd_i, nd_s, nd_l, nd_t, nd_0, nd_c, c_le, c_gt, c_ge, c_is0, c_isi, c_iss, c_isl, c_ist, c_isb, c_no0, c_noi, c_nos, c_nol, c_not, c_nob, c_in, c_ni, u_n, u_b, u_i, u_s, u_l, u_t, f_lenl, f_lent, f_lens, f_ll, f_lt, f_tl, f_tt, f_int, f_bool, f_str, f_max2, f_min2, f_max, f_min, f_sum, f_sumt, l_s, c_les, g_ai, z_ll, z_lt, z_tl, z_tt, min_ints, min_t, mx_ints, mx_t, s_l, s_t, l_l, l_t, a_l, e_l, j_l, j_t, m_x, isn_i, isn_b, isn_s, isn_l, isn_t, isn_n, evb1, evb2, evc0, evc1, andB1, andB2, fl_n, fl_b, fl_i, fl_s, fl_t, fb_0, fb_i, fb_b, fb_s, b_rep, asBool_bool, n_10, Nat.reduceLT, tx_s, eqD_int, eqD_str, eqD_bool, eqD_nil_int, n_10, Nat.reduceLT, n_10, Nat.reduceLT, n_10, Nat.reduceLT, n_10, Nat.reduceLT, n_10, Nat.reduceLT, n_10, Nat.reduceLT, q_ev0, q_ev1, q_ev2, q_ev3, q_ev4, q_ev5, q_ev6, q_ev7, q_ev8, q_ev9, q_ev10, q_ev11, q_ev12, q_ev13, q_ev14, q_ev15, q_ev16, q_ev17, q_ev18, q_ev19, q_ev20, q_ev21, q_ev22, q_ev23, q_ev24, q_ev25, q_ev26, q_ev27, q_ev28, q_ev29, q_ev30, q_ev31, q_ev32, q_ev33, q_ev34, q_ev35, q_ev36, q_evs0, q_evs1, q_evo0, q_evo1, q_evw0, q_evw1, q_evw2, q_evw3, q_evw4, q_evw5, q_evw6, q_evw7, q_ex0, q_ex1, q_ex2, q_ex3, q_ex4, q_ex5, q_ex6, q_ex7, q_ex8, q_ex9, q_ex10, q_ex11, q_ex12, q_ex13, q_ex14, q_ex15, q_ex16, q_ex17, q_ex18, q_ex19, q_ex20, q_ex21, q_ex22, q_ex23, q_ex24, q_ex25, q_exs0, q_exs1, q_exs2, q_exs3, n_10, Nat.reduceLT, fn_rotated_0, fn_turn_print_0, fn_cut_print_0, fn_cut_print_1, gn_check_size_0, fn_join_prints_0, fn_join_prints_1, fn_work_and_turn_0, fn_work_and_turn_1, fn_work_and_tumble_0, fn_work_and_tumble_1, fn_printing_method_0, fn__law_same_0, fn__law_print_0, fn__law_print_1, fn__law_told_0, fn__law_told_1, fn__law_wider_0, fn_law_0, fn_law_1, fn_law_2, fn_law_3, fn_law_4, fn_law_5, fn_law_6, fn_law_7, fn_law_8,]
    rw [sideD, rot, List.map_map]
    rfl
  · intro r hr
    have h1 : revD (rowD r) = .ok (.tuple (r.reverse.map mkD)) := by rw [rowD, rv_t, List.map_reverse]
    simp (implicitDefEqProofs := false) only [out_er, r_x, r_call, r_cv, r_ife, pick_c, isFn_fn, h_fld, h_var, h_non, h_bl, h_int, h_str, h_cmp, h_bo, h_nt, h_ife, h_ret, h_ifr, fld_1, cmpH_ss, cmpH_ii, par_2, par_3, f0_s, f0_i, eq_self, fl_all1, zip_1, Rs.toX_ok, Rs.toX_er, Rs.toX_st, Ot.catch_nx, Ot.catch_rt, Ot.catch_bk, Ot.catch_ct, Ot.catch_er, Ot.catch_st, Ot.then_er, Ot.turn_er, and_self, vl_v, ow_o, gt_zero, gt_succ, pt_zero, pt_succ, kil_nil, kil_cons, Rs.bind_ok, Rs.to_ok, Rs.calm_ok, Ot.then_nx, Ot.then_rt, Ot.then_bk, Ot.then_ct, Ot.turn_nx, Ot.turn_ct, Ot.turn_bk, Ot.turn_rt, chg, asInt_int, isOwn_v, isOwn_o, isOwn_none, g_nm, g_tp, g_n, g_c, List.map_cons, List.map_nil, List.length_cons, List.length_nil, List.cons_append, List.nil_append, List.replicate_succ, List.replicate_zero, Nat.reduceSub, Nat.reduceAdd, Nat.reduceLeDiff, Nat.le_refl, Nat.zero_le, Nat.sub_self, Nat.reduceEqDiff, if_true, if_false, ite_true, ite_false, Bool.false_eq_true, decide_true, decide_false, beq_self_eq_true, List.any_cons, List.any_nil, Bool.or_false, Bool.false_or, Bool.or_true, Bool.and_true, Bool.true_and, Bool.false_and, Bool.and_false, Bool.not_true, Bool.not_false, reduceIte, Int.reduceLT, Int.reduceLE, Int.reduceNeg, Int.reducePow, Int.reduceToNat, Int.reduceSub, Int.reduceAdd, Int.reduceMul, decide_eq_true_eq, Int.toNat_natCast, okR, run_eq, out_nx, out_rt, beqT, beqF, and_self, Bool.true_or, Bool.or_self, b_addi, b_adds, b_addl, b_addt, b_sub, b_mul, b_div, b_mod, b_pow, c_eq, c_ne, c_lt, c_ltt, k_mn, nd_n, nd_b, nd_i, nd_s, nd_l, nd_t, nd_0, nd_c, c_le, c_gt, c_ge, c_is0, c_isi, c_iss, c_isl, c_ist, c_isb, c_no0, c_noi, c_nos, c_nol, c_not, c_nob, c_in, c_ni, u_n, u_b, u_i, u_s, u_l, u_t, f_lenl, f_lent, f_lens, f_ll, f_lt, f_tl, f_tt, f_int, f_bool, f_str, f_max2, f_min2, f_max, f_min, f_sum, f_sumt, l_s, c_les, g_ai, z_ll, z_lt, z_tl, z_tt, min_ints, min_t, mx_ints, mx_t, s_l, s_t, l_l, l_t, a_l, e_l, j_l, j_t, m_x, isn_i, isn_b, isn_s, isn_l, isn_t, isn_n, evb1, evb2, evc0, evc1, andB1, andB2, fl_n, fl_b, fl_i, fl_s, fl_t, fb_0, fb_i, fb_b, fb_s, b_rep, asBool_bool, n_10, Nat.reduceLT, tx_s, eqD_int, eqD_str, eqD_bool, eqD_nil_int, n_10, Nat.reduceLT, n_10, Nat.reduceLT, n_10, Nat.reduceLT, n_10, Nat.reduceLT, n_10, Nat.reduceLT, n_10, Nat.reduceLT, q_ev0, q_ev1, q_ev2, q_ev3, q_ev4, q_ev5, q_ev6, q_ev7, q_ev8, q_ev9, q_ev10, q_ev11, q_ev12, q_ev13, q_ev14, q_ev15, q_ev16, q_ev17, q_ev18, q_ev19, q_ev20, q_ev21, q_ev22, q_ev23, q_ev24, q_ev25, q_ev26, q_ev27, q_ev28, q_ev29, q_ev30, q_ev31, q_ev32, q_ev33, q_ev34, q_ev35, q_ev36, q_evs0, q_evs1, q_evo0, q_evo1, q_evw0, q_evw1, q_evw2, q_evw3, q_evw4, q_evw5, q_evw6, q_evw7, q_ex0, q_ex1, q_ex2, q_ex3, q_ex4, q_ex5, q_ex6, q_ex7, q_ex8, q_ex9, q_ex10, q_ex11, q_ex12, q_ex13, q_ex14, q_ex15, q_ex16, q_ex17, q_ex18, q_ex19, q_ex20, q_ex21, q_ex22, q_ex23, q_ex24, q_ex25, q_exs0, q_exs1, q_exs2, q_exs3, n_10, Nat.reduceLT, fn_rotated_0, fn_turn_print_0, fn_cut_print_0, fn_cut_print_1, gn_check_size_0, fn_join_prints_0, fn_join_prints_1, fn_work_and_turn_0, fn_work_and_turn_1, fn_work_and_tumble_0, fn_work_and_tumble_1, fn_printing_method_0, fn__law_same_0, fn__law_print_0, fn__law_print_1, fn__law_told_0, fn__law_told_1, fn__law_wider_0, fn_law_0, fn_law_1, fn_law_2, fn_law_3, fn_law_4, fn_law_5, fn_law_6, fn_law_7, fn_law_8, h1]
    rw [mapR_map (g := fun (m : Mk) => mkD (m.1, !m.2))]
    · simp (implicitDefEqProofs := false) only [out_er, r_x, r_call, r_cv, r_ife, pick_c, isFn_fn, h_fld, h_var, h_non, h_bl, h_int, h_str, h_cmp, h_bo, h_nt, h_ife, h_ret, h_ifr, fld_1, cmpH_ss, cmpH_ii, par_2, par_3, f0_s, f0_i, eq_self, fl_all1, zip_1, Rs.toX_ok, Rs.toX_er, Rs.toX_st, Ot.catch_nx, Ot.catch_rt, Ot.catch_bk, Ot.catch_ct, Ot.catch_er, Ot.catch_st, Ot.then_er, Ot.turn_er, and_self, vl_v, ow_o, gt_zero, gt_succ, pt_zero, pt_succ, kil_nil, kil_cons, Rs.bind_ok, Rs.to_ok, Rs.calm_ok, Ot.then_nx, Ot.then_rt, Ot.then_bk, Ot.then_ct, Ot.turn_nx, Ot.turn_ct, Ot.turn_bk, Ot.turn_rt, chg, asInt_int, isOwn_v, isOwn_o, isOwn_none, g_nm, g_tp, g_n, g_c, List.map_cons, List.map_nil, List.length_cons, List.length_nil, List.cons_append, List.nil_append, List.replicate_succ, List.replicate_zero, Nat.reduceSub, Nat.reduceAdd, Nat.reduceLeDiff, Nat.le_refl, Nat.zero_le, Nat.sub_self, Nat.reduceEqDiff, if_true, if_false, ite_true, ite_false, Bool.false_eq_true, decide_true, decide_false, beq_self_eq_true, List.any_cons, List.any_nil, Bool.or_false, Bool.false_or, Bool.or_true, Bool.and_true, Bool.true_and, Bool.false_and, Bool.and_false, Bool.not_true, Bool.not_false, reduceIte, Int.reduceLT, Int.reduceLE, Int.reduceNeg, Int.reducePow, Int.reduceToNat, Int.reduceSub, Int.reduceAdd, Int.reduceMul, decide_eq_true_eq, Int.toNat_natCast, okR, run_eq, out_nx, out_rt, beqT, beqF, and_self, Bool.true_or, Bool.or_self, b_addi, b_adds, b_addl, b_addt, b_sub, b_mul, b_div, b_mod, b_pow, c_eq, c_ne, c_lt, c_ltt, k_mn, nd_n, nd_b, nd_i, nd_s, nd_l, nd_t, nd_0, nd_c, c_le, c_gt, c_ge, c_is0, c_isi, c_iss, c_isl, c_ist, c_isb, c_no0, c_noi, c_nos, c_nol, c_not, c_nob, c_in, c_ni, u_n, u_b, u_i, u_s, u_l, u_t, f_lenl, f_lent, f_lens, f_ll, f_lt, f_tl, f_tt, f_int, f_bool, f_str, f_max2, f_min2, f_max, f_min, f_sum, f_sumt, l_s, c_les, g_ai, z_ll, z_lt, z_tl, z_tt, min_ints, min_t, mx_ints, mx_t, s_l, s_t, l_l, l_t, a_l, e_l, j_l, j_t, m_x, isn_i, isn_b, isn_s, isn_l, isn_t, isn_n, evb1, evb2, evc0, evc1, andB1, andB2, fl_n, fl_b, fl_i, fl_s, fl_t, fb_0, fb_i, fb_b, fb_s, b_rep, asBool_bool, n_10, Nat.reduceLT, tx_s, eqD_int, eqD_str, eqD_bool, eqD_nil_int, n_10, Nat.reduceLT, n_10, Nat.reduceLT, n_10, Nat.reduceLT, n_10, Nat.reduceLT, n_10, Nat.reduceLT, n_10, Nat.reduceLT, q_ev0, q_ev1, q_ev2, q_ev3, q_ev4, q_ev5, q_ev6, q_ev7, q_ev8, q_ev9, q_ev10, q_ev11, q_ev12, q_ev13, q_ev14, q_ev15, q_ev16, q_ev17, q_ev18, q_ev19, q_ev20, q_ev21, q_ev22, q_ev23, q_ev24, q_ev25, q_ev26, q_ev27, q_ev28, q_ev29, q_ev30, q_ev31, q_ev32, q_ev33, q_ev34, q_ev35, q_ev36, q_evs0, q_evs1, q_evo0, q_evo1, q_evw0, q_evw1, q_evw2, q_evw3, q_evw4, q_evw5, q_evw6, q_evw7, q_ex0, q_ex1, q_ex2, q_ex3, q_ex4, q_ex5, q_ex6, q_ex7, q_ex8, q_ex9, q_ex10, q_ex11, q_ex12, q_ex13, q_ex14, q_ex15, q_ex16, q_ex17, q_ex18, q_ex19, q_ex20, q_ex21, q_ex22, q_ex23, q_ex24, q_ex25, q_exs0, q_exs1, q_exs2, q_exs3, n_10, Nat.reduceLT, fn_rotated_0, fn_turn_print_0, fn_cut_print_0, fn_cut_print_1, gn_check_size_0, fn_join_prints_0, fn_join_prints_1, fn_work_and_turn_0, fn_work_and_turn_1, fn_work_and_tumble_0, fn_work_and_tumble_1, fn_printing_method_0, fn__law_same_0, fn__law_print_0, fn__law_print_1, fn__law_told_0, fn__law_told_1, fn__law_wider_0, fn_law_0, fn_law_1, fn_law_2, fn_law_3, fn_law_4, fn_law_5, fn_law_6, fn_law_7, fn_law_8,]
      rw [rowD, List.map_map]
      rfl
    · intro m hm
      simp (implicitDefEqProofs := false) only [out_er, r_x, r_call, r_cv, r_ife, pick_c, isFn_fn, h_fld, h_var, h_non, h_bl, h_int, h_str, h_cmp, h_bo, h_nt, h_ife, h_ret, h_ifr, fld_1, cmpH_ss, cmpH_ii, par_2, par_3, f0_s, f0_i, eq_self, fl_all1, zip_1, Rs.toX_ok, Rs.toX_er, Rs.toX_st, Ot.catch_nx, Ot.catch_rt, Ot.catch_bk, Ot.catch_ct, Ot.catch_er, Ot.catch_st, Ot.then_er, Ot.turn_er, and_self, vl_v, ow_o, gt_zero, gt_succ, pt_zero, pt_succ, kil_nil, kil_cons, Rs.bind_ok, Rs.to_ok, Rs.calm_ok, Ot.then_nx, Ot.then_rt, Ot.then_bk, Ot.then_ct, Ot.turn_nx, Ot.turn_ct, Ot.turn_bk, Ot.turn_rt, chg, asInt_int, isOwn_v, isOwn_o, isOwn_none, g_nm, g_tp, g_n, g_c, List.map_cons, List.map_nil, List.length_cons, List.length_nil, List.cons_append, List.nil_append, List.replicate_succ, List.replicate_zero, Nat.reduceSub, Nat.reduceAdd, Nat.reduceLeDiff, Nat.le_refl, Nat.zero_le, Nat.sub_self, Nat.reduceEqDiff, if_true, if_false, ite_true, ite_false, Bool.false_eq_true, decide_true, decide_false, beq_self_eq_true, List.any_cons, List.any_nil, Bool.or_false, Bool.false_or, Bool.or_true, Bool.and_true, Bool.true_and, Bool.false_and, Bool.and_false, Bool.not_true, Bool.not_false, reduceIte, Int.reduceLT, Int.reduceLE, Int.reduceNeg, Int.reducePow, Int.reduceToNat, Int.reduceSub, Int.reduceAdd, Int.reduceMul, decide_eq_true_eq, Int.toNat_natCast, okR, run_eq, out_nx, out_rt, beqT, beqF, and_self, Bool.true_or, Bool.or_self, b_addi, b_adds, b_addl, b_addt, b_sub, b_mul, b_div, b_mod, b_pow, c_eq, c_ne, c_lt, c_ltt, k_mn, nd_n, nd_b, nd_i, nd_s, nd_l, nd_t, nd_0, nd_c, c_le, c_gt, c_ge, c_is0, c_isi, c_iss, c_isl, c_ist, c_isb, c_no0, c_noi, c_nos, c_nol, c_not, c_nob, c_in, c_ni, u_n, u_b, u_i, u_s, u_l, u_t, f_lenl, f_lent, f_lens, f_ll, f_lt, f_tl, f_tt, f_int, f_bool, f_str, f_max2, f_min2, f_max, f_min, f_sum, f_sumt, l_s, c_les, g_ai, z_ll, z_lt, z_tl, z_tt, min_ints, min_t, mx_ints, mx_t, s_l, s_t, l_l, l_t, a_l, e_l, j_l, j_t, m_x, isn_i, isn_b, isn_s, isn_l, isn_t, isn_n, evb1, evb2, evc0, evc1, andB1, andB2, fl_n, fl_b, fl_i, fl_s, fl_t, fb_0, fb_i, fb_b, fb_s, b_rep, asBool_bool, n_10, Nat.reduceLT, tx_s, eqD_int, eqD_str, eqD_bool, eqD_nil_int, n_10, Nat.reduceLT, n_10, Nat.reduceLT, n_10, Nat.reduceLT, n_10, Nat.reduceLT, n_10, Nat.reduceLT, n_10, Nat.reduceLT, q_ev0, q_ev1, q_ev2, q_ev3, q_ev4, q_ev5, q_ev6, q_ev7, q_ev8, q_ev9, q_ev10, q_ev11, q_ev12, q_ev13, q_ev14, q_ev15, q_ev16, q_ev17, q_ev18, q_ev19, q_ev20, q_ev21, q_ev22, q_ev23, q_ev24, q_ev25, q_ev26, q_ev27, q_ev28, q_ev29, q_ev30, q_ev31, q_ev32, q_ev33, q_ev34, q_ev35, q_ev36, q_evs0, q_evs1, q_evo0, q_evo1, q_evw0, q_evw1, q_evw2, q_evw3, q_evw4, q_evw5, q_evw6, q_evw7, q_ex0, q_ex1, q_ex2, q_ex3, q_ex4, q_ex5, q_ex6, q_ex7, q_ex8, q_ex9, q_ex10, q_ex11, q_ex12, q_ex13, q_ex14, q_ex15, q_ex16, q_ex17, q_ex18, q_ex19, q_ex20, q_ex21, q_ex22, q_ex23, q_ex24, q_ex25, q_exs0, q_exs1, q_exs2, q_exs3, n_10, Nat.reduceLT, fn_rotated_0, fn_turn_print_0, fn_cut_print_0, fn_cut_print_1, gn_check_size_0, fn_join_prints_0, fn_join_prints_1, fn_work_and_turn_0, fn_work_and_turn_1, fn_work_and_tumble_0, fn_work_and_tumble_1, fn_printing_method_0, fn__law_same_0, fn__law_print_0, fn__law_print_1, fn__law_told_0, fn__law_told_1, fn__law_wider_0, fn_law_0, fn_law_1, fn_law_2, fn_law_3, fn_law_4, fn_law_5, fn_law_6, fn_law_7, fn_law_8, mark_ok]
theorem turned_ok (s : Sd) : d__law_turned_side [sideD s] = .ok (sideD (rot s)) := by
  have h0 : revD (sideD s) = .ok (.tuple (s.reverse.map rowD)) := by rw [sideD, rv_t, List.map_reverse]
  simp (implicitDefEqProofs := false) only [out_er, r_x, r_call, r_cv, r_ife, pick_c, isFn_fn, h_fld, h_var, h_non, h_bl, h_int, h_str, h_cmp, h_bo, h_nt, h_ife, h_ret, h_ifr, fld_1, cmpH_ss, cmpH_ii, par_2, par_3, f0_s, f0_i, eq_self, fl_all1, zip_1, Rs.toX_ok, Rs.toX_er, Rs.toX_st, Ot.catch_nx, Ot.catch_rt, Ot.catch_bk, Ot.catch_ct, Ot.catch_er, Ot.catch_st, Ot.then_er, Ot.turn_er, and_self, vl_v, ow_o, gt_zero, gt_succ, pt_zero, pt_succ, kil_nil, kil_cons, Rs.bind_ok, Rs.to_ok, Rs.calm_ok, Ot.then_nx, Ot.then_rt, Ot.then_bk, Ot.then_ct, Ot.turn_nx, Ot.turn_ct, Ot.turn_bk, Ot.turn_rt, chg, asInt_int, isOwn_v, isOwn_o, isOwn_none, g_nm, g_tp, g_n, g_c, List.map_cons, List.map_nil, List.length_cons, List.length_nil, List.cons_append, List.nil_append, List.replicate_succ, List.replicate_zero, Nat.reduceSub, Nat.reduceAdd, Nat.reduceLeDiff, Nat.le_refl, Nat.zero_le, Nat.sub_self, Nat.reduceEqDiff, if_true, if_false, ite_true, ite_false, Bool.false_eq_true, decide_true, decide_false, beq_self_eq_true, List.any_cons, List.any_nil, Bool.or_false, Bool.false_or, Bool.or_true, Bool.and_true, Bool.true_and, Bool.false_and, Bool.and_false, Bool.not_true, Bool.not_false, reduceIte, Int.reduceLT, Int.reduceLE, Int.reduceNeg, Int.reducePow, Int.reduceToNat, Int.reduceSub, Int.reduceAdd, Int.reduceMul, decide_eq_true_eq, Int.toNat_natCast, okR, run_eq, out_nx, out_rt, beqT, beqF, and_self, Bool.true_or, Bool.or_self, b_addi, b_adds, b_addl, b_addt, b_sub, b_mul, b_div, b_mod, b_pow, c_eq, c_ne, c_lt, c_ltt, k_mn, nd_n, nd_b, nd_i, nd_s, nd_l, nd_t, nd_0, nd_c, c_le, c_gt, c_ge, c_is0, c_isi, c_iss, c_isl, c_ist, c_isb, c_no0, c_noi, c_nos, c_nol, c_not, c_nob, c_in, c_ni, u_n, u_b, u_i, u_s, u_l, u_t, f_lenl, f_lent, f_lens, f_ll, f_lt, f_tl, f_tt, f_int, f_bool, f_str, f_max2, f_min2, f_max, f_min, f_sum, f_sumt, l_s, c_les, g_ai, z_ll, z_lt, z_tl, z_tt, min_ints, min_t, mx_ints, mx_t, s_l, s_t, l_l, l_t, a_l, e_l, j_l, j_t, m_x, isn_i, isn_b, isn_s, isn_l, isn_t, isn_n, evb1, evb2, evc0, evc1, andB1, andB2, fl_n, fl_b, fl_i, fl_s, fl_t, fb_0, fb_i, fb_b, fb_s, b_rep, asBool_bool, n_10, Nat.reduceLT, tx_s, eqD_int, eqD_str, eqD_bool, eqD_nil_int, n_10, Nat.reduceLT, n_10, Nat.reduceLT, n_10, Nat.reduceLT, n_10, Nat.reduceLT, n_10, Nat.reduceLT, n_10, Nat.reduceLT, q_ev0, q_ev1, q_ev2, q_ev3, q_ev4, q_ev5, q_ev6, q_ev7, q_ev8, q_ev9, q_ev10, q_ev11, q_ev12, q_ev13, q_ev14, q_ev15, q_ev16, q_ev17, q_ev18, q_ev19, q_ev20, q_ev21, q_ev22, q_ev23, q_ev24, q_ev25, q_ev26, q_ev27, q_ev28, q_ev29, q_ev30, q_ev31, q_ev32, q_ev33, q_ev34, q_ev35, q_ev36, q_evs0, q_evs1, q_evo0, q_evo1, q_evw0, q_evw1, q_evw2, q_evw3, q_evw4, q_evw5, q_evw6, q_evw7, q_ex0, q_ex1, q_ex2, q_ex3, q_ex4, q_ex5, q_ex6, q_ex7, q_ex8, q_ex9, q_ex10, q_ex11, q_ex12, q_ex13, q_ex14, q_ex15, q_ex16, q_ex17, q_ex18, q_ex19, q_ex20, q_ex21, q_ex22, q_ex23, q_ex24, q_ex25, q_exs0, q_exs1, q_exs2, q_exs3, n_10, Nat.reduceLT, fn_rotated_0, fn_turn_print_0, fn_cut_print_0, fn_cut_print_1, gn_check_size_0, fn_join_prints_0, fn_join_prints_1, fn_work_and_turn_0, fn_work_and_turn_1, fn_work_and_tumble_0, fn_work_and_tumble_1, fn_printing_method_0, fn__law_same_0, fn__law_print_0, fn__law_print_1, fn__law_told_0, fn__law_told_1, fn__law_wider_0, fn_law_0, fn_law_1, fn_law_2, fn_law_3, fn_law_4, fn_law_5, fn_law_6, fn_law_7, fn_law_8, d__law_turned_side, ir__law_turned_side, h0]
  rw [mapR_map (g := fun (r : Rw) => rowD (r.reverse.map fun m => (m.1, !m.2)))]
  · simp (implicitDefEqProofs := false) only [out_er, r_x, r_call, r_cv, r_ife, pick_c, isFn_fn, h_fld, h_var, h_non, h_bl, h_int, h_str, h_cmp, h_bo, h_nt, h_ife, h_ret, h_ifr, fld_1, cmpH_ss, cmpH_ii, par_2, par_3, f0_s, f0_i, eq_self, fl_all1, zip_1, Rs.toX_ok, Rs.toX_er, Rs.toX_st, Ot.catch_nx, Ot.catch_rt, Ot.catch_bk, Ot.catch_ct, Ot.catch_er, Ot.catch_st, Ot.then_er, Ot.turn_er, and_self, vl_v, ow_o, gt_zero, gt_succ, pt_zero, pt_succ, kil_nil, kil_cons, Rs.bind_ok, Rs.to_ok, Rs.calm_ok, Ot.then_nx, Ot.then_rt, Ot.then_bk, Ot.then_ct, Ot.turn_nx, Ot.turn_ct, Ot.turn_bk, Ot.turn_rt, chg, asInt_int, isOwn_v, isOwn_o, isOwn_none, g_nm, g_tp, g_n, g_c, List.map_cons, List.map_nil, List.length_cons, List.length_nil, List.cons_append, List.nil_append, List.replicate_succ, List.replicate_zero, Nat.reduceSub, Nat.reduceAdd, Nat.reduceLeDiff, Nat.le_refl, Nat.zero_le, Nat.sub_self, Nat.reduceEqDiff, if_true, if_false, ite_true, ite_false, Bool.false_eq_true, decide_true, decide_false, beq_self_eq_true, List.any_cons, List.any_nil, Bool.or_false, Bool.false_or, Bool.or_true, Bool.and_true, Bool.true_and, Bool.false_and, Bool.and_false, Bool.not_true, Bool.not_false, reduceIte, Int.reduceLT, Int.reduceLE, Int.reduceNeg, Int.reducePow, Int.reduceToNat, Int.reduceSub, Int.reduceAdd, Int.reduceMul, decide_eq_true_eq, Int.toNat_natCast, okR, run_eq, out_nx, out_rt, beqT, beqF, and_self, Bool.true_or, Bool.or_self, b_addi, b_adds, b_addl, b_addt, b_sub, b_mul, b_div, b_mod, b_pow, c_eq, c_ne, c_lt, c_ltt, k_mn, nd_n, nd_b, nd_i, nd_s, nd_l, nd_t, nd_0, nd_c, c_le, c_gt, c_ge, c_is0, c_isi, c_iss, c_isl, c_ist, c_isb, c_no0, c_noi, c_nos, c_nol, c_not, c_nob, c_in, c_ni, u_n, u_b, u_i, u_s, u_l, u_t, f_lenl, f_lent, f_lens, f_ll, f_lt, f_tl, f_tt, f_int, f_bool, f_str, f_max2, f_min2, f_max, f_min, f_sum, f_sumt, l_s, c_les, g_ai, z_ll, z_lt, z_tl, z_tt, min_ints, min_t, mx_ints, mx_t, s_l, s_t, l_l, l_t, a_l, e_l, j_l, j_t, m_x, isn_i, isn_b, isn_s, isn_l, isn_t, isn_n, evb1, evb2, evc0, evc1, andB1, andB2, fl_n, fl_b, fl_i, fl_s, fl_t, fb_0, fb_i, fb_b, fb_s, b_rep, asBool_bool, n_10, Nat.reduceLT, tx_s, eqD_int, eqD_str, eqD_bool, eqD_nil_int, n_10, Nat.reduceLT, n_10, Nat.reduceLT, n_10, Nat.reduceLT, n_10, Nat.reduceLT, n_10, Nat.reduceLT, n_10, Nat.reduceLT, q_ev0, q_ev1, q_ev2, q_ev3, q_ev4, q_ev5, q_ev6, q_ev7, q_ev8, q_ev9, q_ev10, q_ev11, q_ev12, q_ev13, q_ev14, q_ev15, q_ev16, q_ev17, q_ev18, q_ev19, q_ev20, q_ev21, q_ev22, q_ev23, q_ev24, q_ev25, q_ev26, q_ev27, q_ev28, q_ev29, q_ev30, q_ev31, q_ev32, q_ev33, q_ev34, q_ev35, q_ev36, q_evs0, q_evs1, q_evo0, q_evo1, q_evw0, q_evw1, q_evw2, q_evw3, q_evw4, q_evw5, q_evw6, q_evw7, q_ex0, q_ex1, q_ex2, q_ex3, q_ex4, q_ex5, q_ex6, q_ex7, q_ex8, q_ex9, q_ex10, q_ex11, q_ex12, q_ex13, q_ex14, q_ex15, q_ex16, q_ex17, q_ex18, q_ex19, q_ex20, q_ex21, q_ex22, q_ex23, q_ex24, q_ex25, q_exs0, q_exs1, q_exs2, q_exs3, n_10, Nat.reduceLT, fn_rotated_0, fn_turn_print_0, fn_cut_print_0, fn_cut_print_1, gn_check_size_0, fn_join_prints_0, fn_join_prints_1, fn_work_and_turn_0, fn_work_and_turn_1, fn_work_and_tumble_0, fn_work_and_tumble_1, fn_printing_method_0, fn__law_same_0, fn__law_print_0, fn__law_print_1, fn__law_told_0, fn__law_told_1, fn__law_wider_0, fn_law_0, fn_law_1, fn_law_2, fn_law_3, fn_law_4, fn_law_5, fn_law_6, fn_law_7, fn_law_8,]
    rw [sideD, rot, List.map_map]
    rfl
  · intro r hr
    have h1 : revD (rowD r) = .ok (.tuple (r.reverse.map mkD)) := by rw [rowD, rv_t, List.map_reverse]
    simp (implicitDefEqProofs := false) only [out_er, r_x, r_call, r_cv, r_ife, pick_c, isFn_fn, h_fld, h_var, h_non, h_bl, h_int, h_str, h_cmp, h_bo, h_nt, h_ife, h_ret, h_ifr, fld_1, cmpH_ss, cmpH_ii, par_2, par_3, f0_s, f0_i, eq_self, fl_all1, zip_1, Rs.toX_ok, Rs.toX_er, Rs.toX_st, Ot.catch_nx, Ot.catch_rt, Ot.catch_bk, Ot.catch_ct, Ot.catch_er, Ot.catch_st, Ot.then_er, Ot.turn_er, and_self, vl_v, ow_o, gt_zero, gt_succ, pt_zero, pt_succ, kil_nil, kil_cons, Rs.bind_ok, Rs.to_ok, Rs.calm_ok, Ot.then_nx, Ot.then_rt, Ot.then_bk, Ot.then_ct, Ot.turn_nx, Ot.turn_ct, Ot.turn_bk, Ot.turn_rt, chg, asInt_int, isOwn_v, isOwn_o, isOwn_none, g_nm, g_tp, g_n, g_c, List.map_cons, List.map_nil, List.length_cons, List.length_nil, List.cons_append, List.nil_append, List.replicate_succ, List.replicate_zero, Nat.reduceSub, Nat.reduceAdd, Nat.reduceLeDiff, Nat.le_refl, Nat.zero_le, Nat.sub_self, Nat.reduceEqDiff, if_true, if_false, ite_true, ite_false, Bool.false_eq_true, decide_true, decide_false, beq_self_eq_true, List.any_cons, List.any_nil, Bool.or_false, Bool.false_or, Bool.or_true, Bool.and_true, Bool.true_and, Bool.false_and, Bool.and_false, Bool.not_true, Bool.not_false, reduceIte, Int.reduceLT, Int.reduceLE, Int.reduceNeg, Int.reducePow, Int.reduceToNat, Int.reduceSub, Int.reduceAdd, Int.reduceMul, decide_eq_true_eq, Int.toNat_natCast, okR, run_eq, out_nx, out_rt, beqT, beqF, and_self, Bool.true_or, Bool.or_self, b_addi, b_adds, b_addl, b_addt, b_sub, b_mul, b_div, b_mod, b_pow, c_eq, c_ne, c_lt, c_ltt, k_mn, nd_n, nd_b, nd_i, nd_s, nd_l, nd_t, nd_0, nd_c, c_le, c_gt, c_ge, c_is0, c_isi, c_iss, c_isl, c_ist, c_isb, c_no0, c_noi, c_nos, c_nol, c_not, c_nob, c_in, c_ni, u_n, u_b, u_i, u_s, u_l, u_t, f_lenl, f_lent, f_lens, f_ll, f_lt, f_tl, f_tt, f_int, f_bool, f_str, f_max2, f_min2, f_max, f_min, f_sum, f_sumt, l_s, c_les, g_ai, z_ll, z_lt, z_tl, z_tt, min_ints, min_t, mx_ints, mx_t, s_l, s_t, l_l, l_t, a_l, e_l, j_l, j_t, m_x, isn_i, isn_b, isn_s, isn_l, isn_t, isn_n, evb1, evb2, evc0, evc1, andB1, andB2, fl_n, fl_b, fl_i, fl_s, fl_t, fb_0, fb_i, fb_b, fb_s, b_rep, asBool_bool, n_10, Nat.reduceLT, tx_s, eqD_int, eqD_str, eqD_bool, eqD_nil_int, n_10, Nat.reduceLT, n_10, Nat.reduceLT, n_10, Nat.reduceLT, n_10, Nat.reduceLT, n_10, Nat.reduceLT, n_10, Nat.reduceLT, q_ev0, q_ev1, q_ev2, q_ev3, q_ev4, q_ev5, q_ev6, q_ev7, q_ev8, q_ev9, q_ev10, q_ev11, q_ev12, q_ev13, q_ev14, q_ev15, q_ev16, q_ev17, q_ev18, q_ev19, q_ev20, q_ev21, q_ev22, q_ev23, q_ev24, q_ev25, q_ev26, q_ev27, q_ev28, q_ev29, q_ev30, q_ev31, q_ev32, q_ev33, q_ev34, q_ev35, q_ev36, q_evs0, q_evs1, q_evo0, q_evo1, q_evw0, q_evw1, q_evw2, q_evw3, q_evw4, q_evw5, q_evw6, q_evw7, q_ex0, q_ex1, q_ex2, q_ex3, q_ex4, q_ex5, q_ex6, q_ex7, q_ex8, q_ex9, q_ex10, q_ex11, q_ex12, q_ex13, q_ex14, q_ex15, q_ex16, q_ex17, q_ex18, q_ex19, q_ex20, q_ex21, q_ex22, q_ex23, q_ex24, q_ex25, q_exs0, q_exs1, q_exs2, q_exs3, n_10, Nat.reduceLT, fn_rotated_0, fn_turn_print_0, fn_cut_print_0, fn_cut_print_1, gn_check_size_0, fn_join_prints_0, fn_join_prints_1, fn_work_and_turn_0, fn_work_and_turn_1, fn_work_and_tumble_0, fn_work_and_tumble_1, fn_printing_method_0, fn__law_same_0, fn__law_print_0, fn__law_print_1, fn__law_told_0, fn__law_told_1, fn__law_wider_0, fn_law_0, fn_law_1, fn_law_2, fn_law_3, fn_law_4, fn_law_5, fn_law_6, fn_law_7, fn_law_8, h1]
    rw [mapR_map (g := fun (m : Mk) => mkD (m.1, !m.2))]
    · simp (implicitDefEqProofs := false) only [out_er, r_x, r_call, r_cv, r_ife, pick_c, isFn_fn, h_fld, h_var, h_non, h_bl, h_int, h_str, h_cmp, h_bo, h_nt, h_ife, h_ret, h_ifr, fld_1, cmpH_ss, cmpH_ii, par_2, par_3, f0_s, f0_i, eq_self, fl_all1, zip_1, Rs.toX_ok, Rs.toX_er, Rs.toX_st, Ot.catch_nx, Ot.catch_rt, Ot.catch_bk, Ot.catch_ct, Ot.catch_er, Ot.catch_st, Ot.then_er, Ot.turn_er, and_self, vl_v, ow_o, gt_zero, gt_succ, pt_zero, pt_succ, kil_nil, kil_cons, Rs.bind_ok, Rs.to_ok, Rs.calm_ok, Ot.then_nx, Ot.then_rt, Ot.then_bk, Ot.then_ct, Ot.turn_nx, Ot.turn_ct, Ot.turn_bk, Ot.turn_rt, chg, asInt_int, isOwn_v, isOwn_o, isOwn_none, g_nm, g_tp, g_n, g_c, List.map_cons, List.map_nil, List.length_cons, List.length_nil, List.cons_append, List.nil_append, List.replicate_succ, List.replicate_zero, Nat.reduceSub, Nat.reduceAdd, Nat.reduceLeDiff, Nat.le_refl, Nat.zero_le, Nat.sub_self, Nat.reduceEqDiff, if_true, if_false, ite_true, ite_false, Bool.false_eq_true, decide_true, decide_false, beq_self_eq_true, List.any_cons, List.any_nil, Bool.or_false, Bool.false_or, Bool.or_true, Bool.and_true, Bool.true_and, Bool.false_and, Bool.and_false, Bool.not_true, Bool.not_false, reduceIte, Int.reduceLT, Int.reduceLE, Int.reduceNeg, Int.reducePow, Int.reduceToNat, Int.reduceSub, Int.reduceAdd, Int.reduceMul, decide_eq_true_eq, Int.toNat_natCast, okR, run_eq, out_nx, out_rt, beqT, beqF, and_self, Bool.true_or, Bool.or_self, b_addi, b_adds, b_addl, b_addt, b_sub, b_mul, b_div, b_mod, b_pow, c_eq, c_ne, c_lt, c_ltt, k_mn, nd_n, nd_b, nd_i, nd_s, nd_l, nd_t, nd_0, nd_c, c_le, c_gt, c_ge, c_is0, c_isi, c_iss, c_isl, c_ist, c_isb, c_no0, c_noi, c_nos, c_nol, c_not, c_nob, c_in, c_ni, u_n, u_b, u_i, u_s, u_l, u_t, f_lenl, f_lent, f_lens, f_ll, f_lt, f_tl, f_tt, f_int, f_bool, f_str, f_max2, f_min2, f_max, f_min, f_sum, f_sumt, l_s, c_les, g_ai, z_ll, z_lt, z_tl, z_tt, min_ints, min_t, mx_ints, mx_t, s_l, s_t, l_l, l_t, a_l, e_l, j_l, j_t, m_x, isn_i, isn_b, isn_s, isn_l, isn_t, isn_n, evb1, evb2, evc0, evc1, andB1, andB2, fl_n, fl_b, fl_i, fl_s, fl_t, fb_0, fb_i, fb_b, fb_s, b_rep, asBool_bool, n_10, Nat.reduceLT, tx_s, eqD_int, eqD_str, eqD_bool, eqD_nil_int, n_10, Nat.reduceLT, n_10, Nat.reduceLT, n_10, Nat.reduceLT, n_10, Nat.reduceLT, n_10, Nat.reduceLT, n_10, Nat.reduceLT, q_ev0, q_ev1, q_ev2, q_ev3, q_ev4, q_ev5, q_ev6, q_ev7, q_ev8, q_ev9, q_ev10, q_ev11, q_ev12, q_ev13, q_ev14, q_ev15, q_ev16, q_ev17, q_ev18, q_ev19, q_ev20, q_ev21, q_ev22, q_ev23, q_ev24, q_ev25, q_ev26, q_ev27, q_ev28, q_ev29, q_ev30, q_ev31, q_ev32, q_ev33, q_ev34, q_ev35, q_ev36, q_evs0, q_evs1, q_evo0, q_evo1, q_evw0, q_evw1, q_evw2, q_evw3, q_evw4, q_evw5, q_evw6, q_evw7, q_ex0, q_ex1, q_ex2, q_ex3, q_ex4, q_ex5, q_ex6, q_ex7, q_ex8, q_ex9, q_ex10, q_ex11, q_ex12, q_ex13, q_ex14, q_ex15, q_ex16, q_ex17, q_ex18, q_ex19, q_ex20, q_ex21, q_ex22, q_ex23, q_ex24, q_ex25, q_exs0, q_exs1, q_exs2, q_exs3, n_10, Nat.reduceLT, fn_rotated_0, fn_turn_print_0, fn_cut_print_0, fn_cut_print_1, gn_check_size_0, fn_join_prints_0, fn_join_prints_1, fn_work_and_turn_0, fn_work_and_turn_1, fn_work_and_tumble_0, fn_work_and_tumble_1, fn_printing_method_0, fn__law_same_0, fn__law_print_0, fn__law_print_1, fn__law_told_0, fn__law_told_1, fn__law_wider_0, fn_law_0, fn_law_1, fn_law_2, fn_law_3, fn_law_4, fn_law_5, fn_law_6, fn_law_7, fn_law_8,]
      rw [rowD, List.map_map]
      rfl
    · intro m hm
      have h2 : ixD (mkD m) (.int 0) = .ok (.int m.1) := rfl
      have h3 : ixD (mkD m) (.int 1) = .ok (.bool m.2) := rfl
      simp (implicitDefEqProofs := false) only [out_er, r_x, r_call, r_cv, r_ife, pick_c, isFn_fn, h_fld, h_var, h_non, h_bl, h_int, h_str, h_cmp, h_bo, h_nt, h_ife, h_ret, h_ifr, fld_1, cmpH_ss, cmpH_ii, par_2, par_3, f0_s, f0_i, eq_self, fl_all1, zip_1, Rs.toX_ok, Rs.toX_er, Rs.toX_st, Ot.catch_nx, Ot.catch_rt, Ot.catch_bk, Ot.catch_ct, Ot.catch_er, Ot.catch_st, Ot.then_er, Ot.turn_er, and_self, vl_v, ow_o, gt_zero, gt_succ, pt_zero, pt_succ, kil_nil, kil_cons, Rs.bind_ok, Rs.to_ok, Rs.calm_ok, Ot.then_nx, Ot.then_rt, Ot.then_bk, Ot.then_ct, Ot.turn_nx, Ot.turn_ct, Ot.turn_bk, Ot.turn_rt, chg, asInt_int, isOwn_v, isOwn_o, isOwn_none, g_nm, g_tp, g_n, g_c, List.map_cons, List.map_nil, List.length_cons, List.length_nil, List.cons_append, List.nil_append, List.replicate_succ, List.replicate_zero, Nat.reduceSub, Nat.reduceAdd, Nat.reduceLeDiff, Nat.le_refl, Nat.zero_le, Nat.sub_self, Nat.reduceEqDiff, if_true, if_false, ite_true, ite_false, Bool.false_eq_true, decide_true, decide_false, beq_self_eq_true, List.any_cons, List.any_nil, Bool.or_false, Bool.false_or, Bool.or_true, Bool.and_true, Bool.true_and, Bool.false_and, Bool.and_false, Bool.not_true, Bool.not_false, reduceIte, Int.reduceLT, Int.reduceLE, Int.reduceNeg, Int.reducePow, Int.reduceToNat, Int.reduceSub, Int.reduceAdd, Int.reduceMul, decide_eq_true_eq, Int.toNat_natCast, okR, run_eq, out_nx, out_rt, beqT, beqF, and_self, Bool.true_or, Bool.or_self, b_addi, b_adds, b_addl, b_addt, b_sub, b_mul, b_div, b_mod, b_pow, c_eq, c_ne, c_lt, c_ltt, k_mn, nd_n, nd_b, nd_i, nd_s, nd_l, nd_t, nd_0, nd_c, c_le, c_gt, c_ge, c_is0, c_isi, c_iss, c_isl, c_ist, c_isb, c_no0, c_noi, c_nos, c_nol, c_not, c_nob, c_in, c_ni, u_n, u_b, u_i, u_s, u_l, u_t, f_lenl, f_lent, f_lens, f_ll, f_lt, f_tl, f_tt, f_int, f_bool, f_str, f_max2, f_min2, f_max, f_min, f_sum, f_sumt, l_s, c_les, g_ai, z_ll, z_lt, z_tl, z_tt, min_ints, min_t, mx_ints, mx_t, s_l, s_t, l_l, l_t, a_l, e_l, j_l, j_t, m_x, isn_i, isn_b, isn_s, isn_l, isn_t, isn_n, evb1, evb2, evc0, evc1, andB1, andB2, fl_n, fl_b, fl_i, fl_s, fl_t, fb_0, fb_i, fb_b, fb_s, b_rep, asBool_bool, n_10, Nat.reduceLT, tx_s, eqD_int, eqD_str, eqD_bool, eqD_nil_int, n_10, Nat.reduceLT, n_10, Nat.reduceLT, n_10, Nat.reduceLT, n_10, Nat.reduceLT, n_10, Nat.reduceLT, n_10, Nat.reduceLT, q_ev0, q_ev1, q_ev2, q_ev3, q_ev4, q_ev5, q_ev6, q_ev7, q_ev8, q_ev9, q_ev10, q_ev11, q_ev12, q_ev13, q_ev14, q_ev15, q_ev16, q_ev17, q_ev18, q_ev19, q_ev20, q_ev21, q_ev22, q_ev23, q_ev24, q_ev25, q_ev26, q_ev27, q_ev28, q_ev29, q_ev30, q_ev31, q_ev32, q_ev33, q_ev34, q_ev35, q_ev36, q_evs0, q_evs1, q_evo0, q_evo1, q_evw0, q_evw1, q_evw2, q_evw3, q_evw4, q_evw5, q_evw6, q_evw7, q_ex0, q_ex1, q_ex2, q_ex3, q_ex4, q_ex5, q_ex6, q_ex7, q_ex8, q_ex9, q_ex10, q_ex11, q_ex12, q_ex13, q_ex14, q_ex15, q_ex16, q_ex17, q_ex18, q_ex19, q_ex20, q_ex21, q_ex22, q_ex23, q_ex24, q_ex25, q_exs0, q_exs1, q_exs2, q_exs3, n_10, Nat.reduceLT, fn_rotated_0, fn_turn_print_0, fn_cut_print_0, fn_cut_print_1, gn_check_size_0, fn_join_prints_0, fn_join_prints_1, fn_work_and_turn_0, fn_work_and_turn_1, fn_work_and_tumble_0, fn_work_and_tumble_1, fn_printing_method_0, fn__law_same_0, fn__law_print_0, fn__law_print_1, fn__law_told_0, fn__law_told_1, fn__law_wider_0, fn_law_0, fn_law_1, fn_law_2, fn_law_3, fn_law_4, fn_law_5, fn_law_6, fn_law_7, fn_law_8, h2, h3]
      rfl
theorem pr_asg (i j : Nat) (p : Sd × Sd) (e : Vn) : asg (.tp (.cons (.nm i) (.cons (.nm j) .nil))) (prD p) e = .ok (pt (pt e i (some (.v (sideD p.1)))) j (some (.v (sideD p.2)))) := by
  simp only [prD, g_nm, g_tp, g_n, g_c, Rs.bind_ok]
theorem n_hv : ¬ (("horizontal" : Str) = "vertical") := by decide
theorem n_bv : ¬ (("both" : Str) = "vertical") := by decide
theorem n_bh : ¬ (("both" : Str) = "horizontal") := by decide
theorem turn_v (p : Sd × Sd) : d_turn_print [prD p, .str "vertical"] = .ok (prD (p.2, p.1)) := by
  simp (implicitDefEqProofs := false) only [out_er, r_x, r_call, r_cv, r_ife, pick_c, isFn_fn, h_fld, h_var, h_non, h_bl, h_int, h_str, h_cmp, h_bo, h_nt, h_ife, h_ret, h_ifr, fld_1, cmpH_ss, cmpH_ii, par_2, par_3, f0_s, f0_i, eq_self, fl_all1, zip_1, Rs.toX_ok, Rs.toX_er, Rs.toX_st, Ot.catch_nx, Ot.catch_rt, Ot.catch_bk, Ot.catch_ct, Ot.catch_er, Ot.catch_st, Ot.then_er, Ot.turn_er, and_self, vl_v, ow_o, gt_zero, gt_succ, pt_zero, pt_succ, kil_nil, kil_cons, Rs.bind_ok, Rs.to_ok, Rs.calm_ok, Ot.then_nx, Ot.then_rt, Ot.then_bk, Ot.then_ct, Ot.turn_nx, Ot.turn_ct, Ot.turn_bk, Ot.turn_rt, chg, asInt_int, isOwn_v, isOwn_o, isOwn_none, g_nm, g_tp, g_n, g_c, List.map_cons, List.map_nil, List.length_cons, List.length_nil, List.cons_append, List.nil_append, List.replicate_succ, List.replicate_zero, Nat.reduceSub, Nat.reduceAdd, Nat.reduceLeDiff, Nat.le_refl, Nat.zero_le, Nat.sub_self, Nat.reduceEqDiff, if_true, if_false, ite_true, ite_false, Bool.false_eq_true, decide_true, decide_false, beq_self_eq_true, List.any_cons, List.any_nil, Bool.or_false, Bool.false_or, Bool.or_true, Bool.and_true, Bool.true_and, Bool.false_and, Bool.and_false, Bool.not_true, Bool.not_false, reduceIte, Int.reduceLT, Int.reduceLE, Int.reduceNeg, Int.reducePow, Int.reduceToNat, Int.reduceSub, Int.reduceAdd, Int.reduceMul, decide_eq_true_eq, Int.toNat_natCast, okR, run_eq, out_nx, out_rt, beqT, beqF, and_self, Bool.true_or, Bool.or_self, b_addi, b_adds, b_addl, b_addt, b_sub, b_mul, b_div, b_mod, b_pow, c_eq, c_ne, c_lt, c_ltt, k_mn, nd_n, nd_b, nd_i, nd_s, nd_l, nd_t, nd_0, nd_c, c_le, c_gt, c_ge, c_is0, c_isi, c_iss, c_isl, c_ist, c_isb, c_no0, c_noi, c_nos, c_nol, c_not, c_nob, c_in, c_ni, u_n, u_b, u_i, u_s, u_l, u_t, f_lenl, f_lent, f_lens, f_ll, f_lt, f_tl, f_tt, f_int, f_bool, f_str, f_max2, f_min2, f_max, f_min, f_sum, f_sumt, l_s, c_les, g_ai, z_ll, z_lt, z_tl, z_tt, min_ints, min_t, mx_ints, mx_t, s_l, s_t, l_l, l_t, a_l, e_l, j_l, j_t, m_x, isn_i, isn_b, isn_s, isn_l, isn_t, isn_n, evb1, evb2, evc0, evc1, andB1, andB2, fl_n, fl_b, fl_i, fl_s, fl_t, fb_0, fb_i, fb_b, fb_s, b_rep, asBool_bool, n_10, Nat.reduceLT, tx_s, eqD_int, eqD_str, eqD_bool, eqD_nil_int, n_10, Nat.reduceLT, n_10, Nat.reduceLT, n_10, Nat.reduceLT, n_10, Nat.reduceLT, n_10, Nat.reduceLT, n_10, Nat.reduceLT, q_ev0, q_ev1, q_ev2, q_ev3, q_ev4, q_ev5, q_ev6, q_ev7, q_ev8, q_ev9, q_ev10, q_ev11, q_ev12, q_ev13, q_ev14, q_ev15, q_ev16, q_ev17, q_ev18, q_ev19, q_ev20, q_ev21, q_ev22, q_ev23, q_ev24, q_ev25, q_ev26, q_ev27, q_ev28, q_ev29, q_ev30, q_ev31, q_ev32, q_ev33, q_ev34, q_ev35, q_ev36, q_evs0, q_evs1, q_evo0, q_evo1, q_evw0, q_evw1, q_evw2, q_evw3, q_evw4, q_evw5, q_evw6, q_evw7, q_ex0, q_ex1, q_ex2, q_ex3, q_ex4, q_ex5, q_ex6, q_ex7, q_ex8, q_ex9, q_ex10, q_ex11, q_ex12, q_ex13, q_ex14, q_ex15, q_ex16, q_ex17, q_ex18, q_ex19, q_ex20, q_ex21, q_ex22, q_ex23, q_ex24, q_ex25, q_exs0, q_exs1, q_exs2, q_exs3, n_10, Nat.reduceLT, fn_rotated_0, fn_turn_print_0, fn_cut_print_0, fn_cut_print_1, gn_check_size_0, fn_join_prints_0, fn_join_prints_1, fn_work_and_turn_0, fn_work_and_turn_1, fn_work_and_tumble_0, fn_work_and_tumble_1, fn_printing_method_0, fn__law_same_0, fn__law_print_0, fn__law_print_1, fn__law_told_0, fn__law_told_1, fn__law_wider_0, fn_law_0, fn_law_1, fn_law_2, fn_law_3, fn_law_4, fn_law_5, fn_law_6, fn_law_7, fn_law_8, d_turn_print, ir_turn_print, pr_asg]
  rfl
theorem turn_h (p : Sd × Sd) : d_turn_print [prD p, .str "horizontal"] = .ok (prD (rot p.2, rot p.1)) := by
  simp (implicitDefEqProofs := false) only [out_er, r_x, r_call, r_cv, r_ife, pick_c, isFn_fn, h_fld, h_var, h_non, h_bl, h_int, h_str, h_cmp, h_bo, h_nt, h_ife, h_ret, h_ifr, fld_1, cmpH_ss, cmpH_ii, par_2, par_3, f0_s, f0_i, eq_self, fl_all1, zip_1, Rs.toX_ok, Rs.toX_er, Rs.toX_st, Ot.catch_nx, Ot.catch_rt, Ot.catch_bk, Ot.catch_ct, Ot.catch_er, Ot.catch_st, Ot.then_er, Ot.turn_er, and_self, vl_v, ow_o, gt_zero, gt_succ, pt_zero, pt_succ, kil_nil, kil_cons, Rs.bind_ok, Rs.to_ok, Rs.calm_ok, Ot.then_nx, Ot.then_rt, Ot.then_bk, Ot.then_ct, Ot.turn_nx, Ot.turn_ct, Ot.turn_bk, Ot.turn_rt, chg, asInt_int, isOwn_v, isOwn_o, isOwn_none, g_nm, g_tp, g_n, g_c, List.map_cons, List.map_nil, List.length_cons, List.length_nil, List.cons_append, List.nil_append, List.replicate_succ, List.replicate_zero, Nat.reduceSub, Nat.reduceAdd, Nat.reduceLeDiff, Nat.le_refl, Nat.zero_le, Nat.sub_self, Nat.reduceEqDiff, if_true, if_false, ite_true, ite_false, Bool.false_eq_true, decide_true, decide_false, beq_self_eq_true, List.any_cons, List.any_nil, Bool.or_false, Bool.false_or, Bool.or_true, Bool.and_true, Bool.true_and, Bool.false_and, Bool.and_false, Bool.not_true, Bool.not_false, reduceIte, Int.reduceLT, Int.reduceLE, Int.reduceNeg, Int.reducePow, Int.reduceToNat, Int.reduceSub, Int.reduceAdd, Int.reduceMul, decide_eq_true_eq, Int.toNat_natCast, okR, run_eq, out_nx, out_rt, beqT, beqF, and_self, Bool.true_or, Bool.or_self, b_addi, b_adds, b_addl, b_addt, b_sub, b_mul, b_div, b_mod, b_pow, c_eq, c_ne, c_lt, c_ltt, k_mn, nd_n, nd_b, nd_i, nd_s, nd_l, nd_t, nd_0, nd_c, c_le, c_gt, c_ge, c_is0, c_isi, c_iss, c_isl, c_ist, c_isb, c_no0, c_noi, c_nos, c_nol, c_not, c_nob, c_in, c_ni, u_n, u_b, u_i, u_s, u_l, u_t, f_lenl, f_lent, f_lens, f_ll, f_lt, f_tl, f_tt, f_int, f_bool, f_str, f_max2, f_min2, f_max, f_min, f_sum, f_sumt, l_s, c_les, g_ai, z_ll, z_lt, z_tl, z_tt, min_ints, min_t, mx_ints, mx_t, s_l, s_t, l_l, l_t, a_l, e_l, j_l, j_t, m_x, isn_i, isn_b, isn_s, isn_l, isn_t, isn_n, evb1, evb2, evc0, evc1, andB1, andB2, fl_n, fl_b, fl_i, fl_s, fl_t, fb_0, fb_i, fb_b, fb_s, b_rep, asBool_bool, n_10, Nat.reduceLT, tx_s, eqD_int, eqD_str, eqD_bool, eqD_nil_int, n_10, Nat.reduceLT, n_10, Nat.reduceLT, n_10, Nat.reduceLT, n_10, Nat.reduceLT, n_10, Nat.reduceLT, n_10, Nat.reduceLT, q_ev0, q_ev1, q_ev2, q_ev3, q_ev4, q_ev5, q_ev6, q_ev7, q_ev8, q_ev9, q_ev10, q_ev11, q_ev12, q_ev13, q_ev14, q_ev15, q_ev16, q_ev17, q_ev18, q_ev19, q_ev20, q_ev21, q_ev22, q_ev23, q_ev24, q_ev25, q_ev26, q_ev27, q_ev28, q_ev29, q_ev30, q_ev31, q_ev32, q_ev33, q_ev34, q_ev35, q_ev36, q_evs0, q_evs1, q_evo0, q_evo1, q_evw0, q_evw1, q_evw2, q_evw3, q_evw4, q_evw5, q_evw6, q_evw7, q_ex0, q_ex1, q_ex2, q_ex3, q_ex4, q_ex5, q_ex6, q_ex7, q_ex8, q_ex9, q_ex10, q_ex11, q_ex12, q_ex13, q_ex14, q_ex15, q_ex16, q_ex17, q_ex18, q_ex19, q_ex20, q_ex21, q_ex22, q_ex23, q_ex24, q_ex25, q_exs0, q_exs1, q_exs2, q_exs3, n_10, Nat.reduceLT, fn_rotated_0, fn_turn_print_0, fn_cut_print_0, fn_cut_print_1, gn_check_size_0, fn_join_prints_0, fn_join_prints_1, fn_work_and_turn_0, fn_work_and_turn_1, fn_work_and_tumble_0, fn_work_and_tumble_1, fn_printing_method_0, fn__law_same_0, fn__law_print_0, fn__law_print_1, fn__law_told_0, fn__law_told_1, fn__law_wider_0, fn_law_0, fn_law_1, fn_law_2, fn_law_3, fn_law_4, fn_law_5, fn_law_6, fn_law_7, fn_law_8, d_turn_print, ir_turn_print, pr_asg, n_hv, rotated_ok]
  rfl
def meth (p : Sd × Sd) : Str := if p.2 = p.1 then "work and turn" else if p.2 = rot p.1 then "work and tumble" else "sheetwise"
theorem meth_ok (p : Sd × Sd) : d_printing_method [prD p] = .ok (.str (meth p)) := by
  unfold meth
  by_cases h1 : p.2 = p.1
  · simp (implicitDefEqProofs := false) only [out_er, r_x, r_call, r_cv, r_ife, pick_c, isFn_fn, h_fld, h_var, h_non, h_bl, h_int, h_str, h_cmp, h_bo, h_nt, h_ife, h_ret, h_ifr, fld_1, cmpH_ss, cmpH_ii, par_2, par_3, f0_s, f0_i, eq_self, fl_all1, zip_1, Rs.toX_ok, Rs.toX_er, Rs.toX_st, Ot.catch_nx, Ot.catch_rt, Ot.catch_bk, Ot.catch_ct, Ot.catch_er, Ot.catch_st, Ot.then_er, Ot.turn_er, and_self, vl_v, ow_o, gt_zero, gt_succ, pt_zero, pt_succ, kil_nil, kil_cons, Rs.bind_ok, Rs.to_ok, Rs.calm_ok, Ot.then_nx, Ot.then_rt, Ot.then_bk, Ot.then_ct, Ot.turn_nx, Ot.turn_ct, Ot.turn_bk, Ot.turn_rt, chg, asInt_int, isOwn_v, isOwn_o, isOwn_none, g_nm, g_tp, g_n, g_c, List.map_cons, List.map_nil, List.length_cons, List.length_nil, List.cons_append, List.nil_append, List.replicate_succ, List.replicate_zero, Nat.reduceSub, Nat.reduceAdd, Nat.reduceLeDiff, Nat.le_refl, Nat.zero_le, Nat.sub_self, Nat.reduceEqDiff, if_true, if_false, ite_true, ite_false, Bool.false_eq_true, decide_true, decide_false, beq_self_eq_true, List.any_cons, List.any_nil, Bool.or_false, Bool.false_or, Bool.or_true, Bool.and_true, Bool.true_and, Bool.false_and, Bool.and_false, Bool.not_true, Bool.not_false, reduceIte, Int.reduceLT, Int.reduceLE, Int.reduceNeg, Int.reducePow, Int.reduceToNat, Int.reduceSub, Int.reduceAdd, Int.reduceMul, decide_eq_true_eq, Int.toNat_natCast, okR, run_eq, out_nx, out_rt, beqT, beqF, and_self, Bool.true_or, Bool.or_self, b_addi, b_adds, b_addl, b_addt, b_sub, b_mul, b_div, b_mod, b_pow, c_eq, c_ne, c_lt, c_ltt, k_mn, nd_n, nd_b, nd_i, nd_s, nd_l, nd_t, nd_0, nd_c, c_le, c_gt, c_ge, c_is0, c_isi, c_iss, c_isl, c_ist, c_isb, c_no0, c_noi, c_nos, c_nol, c_not, c_nob, c_in, c_ni, u_n, u_b, u_i, u_s, u_l, u_t, f_lenl, f_lent, f_lens, f_ll, f_lt, f_tl, f_tt, f_int, f_bool, f_str, f_max2, f_min2, f_max, f_min, f_sum, f_sumt, l_s, c_les, g_ai, z_ll, z_lt, z_tl, z_tt, min_ints, min_t, mx_ints, mx_t, s_l, s_t, l_l, l_t, a_l, e_l, j_l, j_t, m_x, isn_i, isn_b, isn_s, isn_l, isn_t, isn_n, evb1, evb2, evc0, evc1, andB1, andB2, fl_n, fl_b, fl_i, fl_s, fl_t, fb_0, fb_i, fb_b, fb_s, b_rep, asBool_bool, n_10, Nat.reduceLT, tx_s, eqD_int, eqD_str, eqD_bool, eqD_nil_int, n_10, Nat.reduceLT, n_10, Nat.reduceLT, n_10, Nat.reduceLT, n_10, Nat.reduceLT, n_10, Nat.reduceLT, n_10, Nat.reduceLT, q_ev0, q_ev1, q_ev2, q_ev3, q_ev4, q_ev5, q_ev6, q_ev7, q_ev8, q_ev9, q_ev10, q_ev11, q_ev12, q_ev13, q_ev14, q_ev15, q_ev16, q_ev17, q_ev18, q_ev19, q_ev20, q_ev21, q_ev22, q_ev23, q_ev24, q_ev25, q_ev26, q_ev27, q_ev28, q_ev29, q_ev30, q_ev31, q_ev32, q_ev33, q_ev34, q_ev35, q_ev36, q_evs0, q_evs1, q_evo0, q_evo1, q_evw0, q_evw1, q_evw2, q_evw3, q_evw4, q_evw5, q_evw6, q_evw7, q_ex0, q_ex1, q_ex2, q_ex3, q_ex4, q_ex5, q_ex6, q_ex7, q_ex8, q_ex9, q_ex10, q_ex11, q_ex12, q_ex13, q_ex14, q_ex15, q_ex16, q_ex17, q_ex18, q_ex19, q_ex20, q_ex21, q_ex22, q_ex23, q_ex24, q_ex25, q_exs0, q_exs1, q_exs2, q_exs3, n_10, Nat.reduceLT, fn_rotated_0, fn_turn_print_0, fn_cut_print_0, fn_cut_print_1, gn_check_size_0, fn_join_prints_0, fn_join_prints_1, fn_work_and_turn_0, fn_work_and_turn_1, fn_work_and_tumble_0, fn_work_and_tumble_1, fn_printing_method_0, fn__law_same_0, fn__law_print_0, fn__law_print_1, fn__law_told_0, fn__law_told_1, fn__law_wider_0, fn_law_0, fn_law_1, fn_law_2, fn_law_3, fn_law_4, fn_law_5, fn_law_6, fn_law_7, fn_law_8, d_printing_method, ir_printing_method, pr_asg, eqD_side, h1]
  · by_cases h2 : p.2 = rot p.1
    · rw [h2] at h1
      simp (implicitDefEqProofs := false) only [out_er, r_x, r_call, r_cv, r_ife, pick_c, isFn_fn, h_fld, h_var, h_non, h_bl, h_int, h_str, h_cmp, h_bo, h_nt, h_ife, h_ret, h_ifr, fld_1, cmpH_ss, cmpH_ii, par_2, par_3, f0_s, f0_i, eq_self, fl_all1, zip_1, Rs.toX_ok, Rs.toX_er, Rs.toX_st, Ot.catch_nx, Ot.catch_rt, Ot.catch_bk, Ot.catch_ct, Ot.catch_er, Ot.catch_st, Ot.then_er, Ot.turn_er, and_self, vl_v, ow_o, gt_zero, gt_succ, pt_zero, pt_succ, kil_nil, kil_cons, Rs.bind_ok, Rs.to_ok, Rs.calm_ok, Ot.then_nx, Ot.then_rt, Ot.then_bk, Ot.then_ct, Ot.turn_nx, Ot.turn_ct, Ot.turn_bk, Ot.turn_rt, chg, asInt_int, isOwn_v, isOwn_o, isOwn_none, g_nm, g_tp, g_n, g_c, List.map_cons, List.map_nil, List.length_cons, List.length_nil, List.cons_append, List.nil_append, List.replicate_succ, List.replicate_zero, Nat.reduceSub, Nat.reduceAdd, Nat.reduceLeDiff, Nat.le_refl, Nat.zero_le, Nat.sub_self, Nat.reduceEqDiff, if_true, if_false, ite_true, ite_false, Bool.false_eq_true, decide_true, decide_false, beq_self_eq_true, List.any_cons, List.any_nil, Bool.or_false, Bool.false_or, Bool.or_true, Bool.and_true, Bool.true_and, Bool.false_and, Bool.and_false, Bool.not_true, Bool.not_false, reduceIte, Int.reduceLT, Int.reduceLE, Int.reduceNeg, Int.reducePow, Int.reduceToNat, Int.reduceSub, Int.reduceAdd, Int.reduceMul, decide_eq_true_eq, Int.toNat_natCast, okR, run_eq, out_nx, out_rt, beqT, beqF, and_self, Bool.true_or, Bool.or_self, b_addi, b_adds, b_addl, b_addt, b_sub, b_mul, b_div, b_mod, b_pow, c_eq, c_ne, c_lt, c_ltt, k_mn, nd_n, nd_b, nd_i, nd_s, nd_l, nd_t, nd_0, nd_c, c_le, c_gt, c_ge, c_is0, c_isi, c_iss, c_isl, c_ist, c_isb, c_no0, c_noi, c_nos, c_nol, c_not, c_nob, c_in, c_ni, u_n, u_b, u_i, u_s, u_l, u_t, f_lenl, f_lent, f_lens, f_ll, f_lt, f_tl, f_tt, f_int, f_bool, f_str, f_max2, f_min2, f_max, f_min, f_sum, f_sumt, l_s, c_les, g_ai, z_ll, z_lt, z_tl, z_tt, min_ints, min_t, mx_ints, mx_t, s_l, s_t, l_l, l_t, a_l, e_l, j_l, j_t, m_x, isn_i, isn_b, isn_s, isn_l, isn_t, isn_n, evb1, evb2, evc0, evc1, andB1, andB2, fl_n, fl_b, fl_i, fl_s, fl_t, fb_0, fb_i, fb_b, fb_s, b_rep, asBool_bool, n_10, Nat.reduceLT, tx_s, eqD_int, eqD_str, eqD_bool, eqD_nil_int, n_10, Nat.reduceLT, n_10, Nat.reduceLT, n_10, Nat.reduceLT, n_10, Nat.reduceLT, n_10, Nat.reduceLT, n_10, Nat.reduceLT, q_ev0, q_ev1, q_ev2, q_ev3, q_ev4, q_ev5, q_ev6, q_ev7, q_ev8, q_ev9, q_ev10, q_ev11, q_ev12, q_ev13, q_ev14, q_ev15, q_ev16, q_ev17, q_ev18, q_ev19, q_ev20, q_ev21, q_ev22, q_ev23, q_ev24, q_ev25, q_ev26, q_ev27, q_ev28, q_ev29, q_ev30, q_ev31, q_ev32, q_ev33, q_ev34, q_ev35, q_ev36, q_evs0, q_evs1, q_evo0, q_evo1, q_evw0, q_evw1, q_evw2, q_evw3, q_evw4, q_evw5, q_evw6, q_evw7, q_ex0, q_ex1, q_ex2, q_ex3, q_ex4, q_ex5, q_ex6, q_ex7, q_ex8, q_ex9, q_ex10, q_ex11, q_ex12, q_ex13, q_ex14, q_ex15, q_ex16, q_ex17, q_ex18, q_ex19, q_ex20, q_ex21, q_ex22, q_ex23, q_ex24, q_ex25, q_exs0, q_exs1, q_exs2, q_exs3, n_10, Nat.reduceLT, fn_rotated_0, fn_turn_print_0, fn_cut_print_0, fn_cut_print_1, gn_check_size_0, fn_join_prints_0, fn_join_prints_1, fn_work_and_turn_0, fn_work_and_turn_1, fn_work_and_tumble_0, fn_work_and_tumble_1, fn_printing_method_0, fn__law_same_0, fn__law_print_0, fn__law_print_1, fn__law_told_0, fn__law_told_1, fn__law_wider_0, fn_law_0, fn_law_1, fn_law_2, fn_law_3, fn_law_4, fn_law_5, fn_law_6, fn_law_7, fn_law_8, d_printing_method, ir_printing_method, pr_asg, eqD_side, h1, rotated_ok, h2]
    · simp (implicitDefEqProofs := false) only [out_er, r_x, r_call, r_cv, r_ife, pick_c, isFn_fn, h_fld, h_var, h_non, h_bl, h_int, h_str, h_cmp, h_bo, h_nt, h_ife, h_ret, h_ifr, fld_1, cmpH_ss, cmpH_ii, par_2, par_3, f0_s, f0_i, eq_self, fl_all1, zip_1, Rs.toX_ok, Rs.toX_er, Rs.toX_st, Ot.catch_nx, Ot.catch_rt, Ot.catch_bk, Ot.catch_ct, Ot.catch_er, Ot.catch_st, Ot.then_er, Ot.turn_er, and_self, vl_v, ow_o, gt_zero, gt_succ, pt_zero, pt_succ, kil_nil, kil_cons, Rs.bind_ok, Rs.to_ok, Rs.calm_ok, Ot.then_nx, Ot.then_rt, Ot.then_bk, Ot.then_ct, Ot.turn_nx, Ot.turn_ct, Ot.turn_bk, Ot.turn_rt, chg, asInt_int, isOwn_v, isOwn_o, isOwn_none, g_nm, g_tp, g_n, g_c, List.map_cons, List.map_nil, List.length_cons, List.length_nil, List.cons_append, List.nil_append, List.replicate_succ, List.replicate_zero, Nat.reduceSub, Nat.reduceAdd, Nat.reduceLeDiff, Nat.le_refl, Nat.zero_le, Nat.sub_self, Nat.reduceEqDiff, if_true, if_false, ite_true, ite_false, Bool.false_eq_true, decide_true, decide_false, beq_self_eq_true, List.any_cons, List.any_nil, Bool.or_false, Bool.false_or, Bool.or_true, Bool.and_true, Bool.true_and, Bool.false_and, Bool.and_false, Bool.not_true, Bool.not_false, reduceIte, Int.reduceLT, Int.reduceLE, Int.reduceNeg, Int.reducePow, Int.reduceToNat, Int.reduceSub, Int.reduceAdd, Int.reduceMul, decide_eq_true_eq, Int.toNat_natCast, okR, run_eq, out_nx, out_rt, beqT, beqF, and_self, Bool.true_or, Bool.or_self, b_addi, b_adds, b_addl, b_addt, b_sub, b_mul, b_div, b_mod, b_pow, c_eq, c_ne, c_lt, c_ltt, k_mn, nd_n, nd_b, nd_i, nd_s, nd_l, nd_t, nd_0, nd_c, c_le, c_gt, c_ge, c_is0, c_isi, c_iss, c_isl, c_ist, c_isb, c_no0, c_noi, c_nos, c_nol, c_not, c_nob, c_in, c_ni, u_n, u_b, u_i, u_s, u_l, u_t, f_lenl, f_lent, f_lens, f_ll, f_lt, f_tl, f_tt, f_int, f_bool, f_str, f_max2, f_min2, f_max, f_min, f_sum, f_sumt, l_s, c_les, g_ai, z_ll, z_lt, z_tl, z_tt, min_ints, min_t, mx_ints, mx_t, s_l, s_t, l_l, l_t, a_l, e_l, j_l, j_t, m_x, isn_i, isn_b, isn_s, isn_l, isn_t, isn_n, evb1, evb2, evc0, evc1, andB1, andB2, fl_n, fl_b, fl_i, fl_s, fl_t, fb_0, fb_i, fb_b, fb_s, b_rep, asBool_bool, n_10, Nat.reduceLT, tx_s, eqD_int, eqD_str, eqD_bool, eqD_nil_int, n_10, Nat.reduceLT, n_10, Nat.reduceLT, n_10, Nat.reduceLT, n_10, Nat.reduceLT, n_10, Nat.reduceLT, n_10, Nat.reduceLT, q_ev0, q_ev1, q_ev2, q_ev3, q_ev4, q_ev5, q_ev6, q_ev7, q_ev8, q_ev9, q_ev10, q_ev11, q_ev12, q_ev13, q_ev14, q_ev15, q_ev16, q_ev17, q_ev18, q_ev19, q_ev20, q_ev21, q_ev22, q_ev23, q_ev24, q_ev25, q_ev26, q_ev27, q_ev28, q_ev29, q_ev30, q_ev31, q_ev32, q_ev33, q_ev34, q_ev35, q_ev36, q_evs0, q_evs1, q_evo0, q_evo1, q_evw0, q_evw1, q_evw2, q_evw3, q_evw4, q_evw5, q_evw6, q_evw7, q_ex0, q_ex1, q_ex2, q_ex3, q_ex4, q_ex5, q_ex6, q_ex7, q_ex8, q_ex9, q_ex10, q_ex11, q_ex12, q_ex13, q_ex14, q_ex15, q_ex16, q_ex17, q_ex18, q_ex19, q_ex20, q_ex21, q_ex22, q_ex23, q_ex24, q_ex25, q_exs0, q_exs1, q_exs2, q_exs3, n_10, Nat.reduceLT, fn_rotated_0, fn_turn_print_0, fn_cut_print_0, fn_cut_print_1, gn_check_size_0, fn_join_prints_0, fn_join_prints_1, fn_work_and_turn_0, fn_work_and_turn_1, fn_work_and_tumble_0, fn_work_and_tumble_1, fn_printing_method_0, fn__law_same_0, fn__law_print_0, fn__law_print_1, fn__law_told_0, fn__law_told_1, fn__law_wider_0, fn_law_0, fn_law_1, fn_law_2, fn_law_3, fn_law_4, fn_law_5, fn_law_6, fn_law_7, fn_law_8, d_printing_method, ir_printing_method, pr_asg, eqD_side, h1, rotated_ok, h2]

def F1 (ds : List Int) (rows cols : Int) (l : List Int) (sides : List Sd) : Vn := [none, none, some (.v (.list (ds.map fun i => .int i))), some (.v (.int rows)), some (.v (.int cols)), some (.v (.list (l.map fun i => .int i))), some (.o (.list (sides.map sideD))), none, none, none, none, none, none]
def F2 (ds : List Int) (rows cols : Int) (l : List Int) (sides : List Sd) (side : Nat) (made : Sd) : Vn := [none, none, some (.v (.list (ds.map fun i => .int i))), some (.v (.int rows)), some (.v (.int cols)), some (.v (.list (l.map fun i => .int i))), some (.o (.list (sides.map sideD))), some (.v (.int side)), some (.o (.list (made.map rowD))), none, none, none, none]
end Bk
namespace Bk
open PySem PySem.Spec PyProof.Rows L2
/-! ### the prints -/
/-- n rows of m marks -/
def Rc (n m : Nat) (s : Sd) : Prop := s.length = n ∧ ∀ r ∈ s, r.length = m
theorem rc_row {n m : Nat} {s : Sd} (h : Rc n m s) (hn : 1 ≤ n) : ∃ r, s[0]? = some r ∧ r.length = m := by
  obtain ⟨h1, h2⟩ := h
  cases s with
  | nil => simp at h1; omega
  | cons r s => exact ⟨r, rfl, h2 r List.mem_cons_self⟩
theorem inner {ds : List Int} {rows cols : Int} {l : List Int} {sides : List Sd} {side : Nat} (hd : ds.length = 3) (hl : l.length = 64) (hr : 1 ≤ rows ∧ rows ≤ 4) (hc : 1 ≤ cols ∧ cols ≤ 4) (hs : side < 2) :
    ∃ made, Rc rows.toNat cols.toNat made ∧ forR (.nm 9) [0, 1, 9, 10, 11, 12] (exs c__law_print b__law_print_0) ((List.range rows.toNat).map fun (k : Nat) => (.int (k : Int) : D)) (F2 ds rows cols l sides side []) = .nx (F2 ds rows cols l sides side made) := by
  obtain ⟨e', k1, made, k2, k3⟩ := forR_inv (t := .nm 9) (kl := [0, 1, 9, 10, 11, 12]) (body := exs c__law_print b__law_print_0) (i := fun (k : Nat) => (.int (k : Int) : D)) (fun k e => ∃ made, Rc k cols.toNat made ∧ e = F2 ds rows cols l sides side made) (List.range rows.toNat) 0
    (F2 ds rows cols l sides side []) ⟨[], ⟨rfl, by simp⟩, rfl⟩ fun k x e hk he => by
      obtain ⟨made, ⟨hm1, hm2⟩, rfl⟩ := he
      obtain ⟨hx1, hx2⟩ := List.getElem?_eq_some_iff.mp hk
      simp only [List.length_range] at hx1
      simp only [List.getElem_range] at hx2
      subst hx2
      rw [Nat.zero_add] at *
      have hix : ixD (.list (ds.map fun i => .int i)) (.int 2) = .ok (.int (ds.getD 2 0)) := ix_list (by
        rw [at_pos _ (by decide), List.getElem?_map]
        show Option.map _ ds[2]? = _
        rw [getD_some (0 : Int) (by omega)]
        rfl)
      generalize hsp : (if ds.getD 2 0 % 2 = 0 then (2 : Int) else 40) = spread
      have hix2 : ixD (.list [.int 2, .int 40]) (.int (ds.getD 2 0 % 2)) = .ok (.int spread) := by
        rw [← hsp]
        have h01 : ds.getD 2 0 % 2 = 0 ∨ ds.getD 2 0 % 2 = 1 := by omega
        rcases h01 with h | h
        · rw [h]; rfl
        · rw [h]; rfl
      have hpos : 0 < spread := by rw [← hsp]; split <;> decide
      have hmul : ((-18446744073709551616 : Int) < (side : Int) ∧ (side : Int) < 18446744073709551616) := by omega
      have hmul2 : ((-18446744073709551616 : Int) < (k : Int) ∧ (k : Int) < 18446744073709551616) := by omega
      have b1 : (-16777216 : Int) ≤ cols := by omega
      have b2 : cols ≤ (16777216 : Int) := by omega
      have hlen : made.length < 16777216 := by omega
      refine ⟨_, rfl, F2 ds rows cols l sides side (made ++ [(List.range cols.toNat).map fun j => (l.getD (side * 32 + k * 8 + j) 0 % spread, decide (l.getD (side * 32 + k * 8 + j) 0 % 3 = 0))]), fun f => ?_, _, ⟨?_, ?_⟩, rfl⟩
      · simp (implicitDefEqProofs := false) only [out_er, r_x, r_call, r_cv, r_ife, pick_c, isFn_fn, h_fld, h_var, h_non, h_bl, h_int, h_str, h_cmp, h_bo, h_nt, h_ife, h_ret, h_ifr, fld_1, cmpH_ss, cmpH_ii, par_2, par_3, f0_s, f0_i, eq_self, fl_all1, zip_1, Rs.toX_ok, Rs.toX_er, Rs.toX_st, Ot.catch_nx, Ot.catch_rt, Ot.catch_bk, Ot.catch_ct, Ot.catch_er, Ot.catch_st, Ot.then_er, Ot.turn_er, and_self, vl_v, ow_o, gt_zero, gt_succ, pt_zero, pt_succ, kil_nil, kil_cons, Rs.bind_ok, Rs.to_ok, Rs.calm_ok, Ot.then_nx, Ot.then_rt, Ot.then_bk, Ot.then_ct, Ot.turn_nx, Ot.turn_ct, Ot.turn_bk, Ot.turn_rt, chg, asInt_int, isOwn_v, isOwn_o, isOwn_none, g_nm, g_tp, g_n, g_c, List.map_cons, List.map_nil, List.length_cons, List.length_nil, List.cons_append, List.nil_append, List.replicate_succ, List.replicate_zero, Nat.reduceSub, Nat.reduceAdd, Nat.reduceLeDiff, Nat.le_refl, Nat.zero_le, Nat.sub_self, Nat.reduceEqDiff, if_true, if_false, ite_true, ite_false, Bool.false_eq_true, decide_true, decide_false, beq_self_eq_true, List.any_cons, List.any_nil, Bool.or_false, Bool.false_or, Bool.or_true, Bool.and_true, Bool.true_and, Bool.false_and, Bool.and_false, Bool.not_true, Bool.not_false, reduceIte, Int.reduceLT, Int.reduceLE, Int.reduceNeg, Int.reducePow, Int.reduceToNat, Int.reduceSub, Int.reduceAdd, Int.reduceMul, decide_eq_true_eq, Int.toNat_natCast, okR, run_eq, out_nx, out_rt, beqT, beqF, and_self, Bool.true_or, Bool.or_self, b_addi, b_adds, b_addl, b_addt, b_sub, b_mul, b_div, b_mod, b_pow, c_eq, c_ne, c_lt, c_ltt, k_mn, nd_n, nd_b, nd_i, nd_s, nd_l, nd_t, nd_0, nd_c, c_le, c_gt, c_ge, c_is0, c_isi, c_iss, c_isl, c_ist, c_isb, c_no0, c_noi, c_nos, c_nol, c_not, c_nob, c_in, c_ni, u_n, u_b, u_i, u_s, u_l, u_t, f_lenl, f_lent, f_lens, f_ll, f_lt, f_tl, f_tt, f_int, f_bool, f_str, f_max2, f_min2, f_max, f_min, f_sum, f_sumt, l_s, c_les, g_ai, z_ll, z_lt, z_tl, z_tt, min_ints, min_t, mx_ints, mx_t, s_l, s_t, l_l, l_t, a_l, e_l, j_l, j_t, m_x, isn_i, isn_b, isn_s, isn_l, isn_t, isn_n, evb1, evb2, evc0, evc1, andB1, andB2, fl_n, fl_b, fl_i, fl_s, fl_t, fb_0, fb_i, fb_b, fb_s, b_rep, asBool_bool, n_10, Nat.reduceLT, tx_s, eqD_int, eqD_str, eqD_bool, eqD_nil_int, n_10, Nat.reduceLT, n_10, Nat.reduceLT, n_10, Nat.reduceLT, n_10, Nat.reduceLT, n_10, Nat.reduceLT, n_10, Nat.reduceLT, q_ev0, q_ev1, q_ev2, q_ev3, q_ev4, q_ev5, q_ev6, q_ev7, q_ev8, q_ev9, q_ev10, q_ev11, q_ev12, q_ev13, q_ev14, q_ev15, q_ev16, q_ev17, q_ev18, q_ev19, q_ev20, q_ev21, q_ev22, q_ev23, q_ev24, q_ev25, q_ev26, q_ev27, q_ev28, q_ev29, q_ev30, q_ev31, q_ev32, q_ev33, q_ev34, q_ev35, q_ev36, q_evs0, q_evs1, q_evo0, q_evo1, q_evw0, q_evw1, q_evw2, q_evw3, q_evw4, q_evw5, q_evw6, q_evw7, q_ex0, q_ex1, q_ex2, q_ex3, q_ex4, q_ex5, q_ex6, q_ex7, q_ex8, q_ex9, q_ex10, q_ex11, q_ex12, q_ex13, q_ex14, q_ex15, q_ex16, q_ex17, q_ex18, q_ex19, q_ex20, q_ex21, q_ex22, q_ex23, q_ex24, q_ex25, q_exs0, q_exs1, q_exs2, q_exs3, n_10, Nat.reduceLT, fn_rotated_0, fn_turn_print_0, fn_cut_print_0, fn_cut_print_1, gn_check_size_0, fn_join_prints_0, fn_join_prints_1, fn_work_and_turn_0, fn_work_and_turn_1, fn_work_and_tumble_0, fn_work_and_tumble_1, fn_printing_method_0, fn__law_same_0, fn__law_print_0, fn__law_print_1, fn__law_told_0, fn__law_told_1, fn__law_wider_0, fn_law_0, fn_law_1, fn_law_2, fn_law_3, fn_law_4, fn_law_5, fn_law_6, fn_law_7, fn_law_8, F2, b__law_print_0, hix, hix2, b1, b2, rng0]
        rw [mapR_map (g := fun (j : Nat) => mkD (l.getD (side * 32 + k * 8 + j) 0 % spread, decide (l.getD (side * 32 + k * 8 + j) 0 % 3 = 0)))]
        · simp (implicitDefEqProofs := false) only [out_er, r_x, r_call, r_cv, r_ife, pick_c, isFn_fn, h_fld, h_var, h_non, h_bl, h_int, h_str, h_cmp, h_bo, h_nt, h_ife, h_ret, h_ifr, fld_1, cmpH_ss, cmpH_ii, par_2, par_3, f0_s, f0_i, eq_self, fl_all1, zip_1, Rs.toX_ok, Rs.toX_er, Rs.toX_st, Ot.catch_nx, Ot.catch_rt, Ot.catch_bk, Ot.catch_ct, Ot.catch_er, Ot.catch_st, Ot.then_er, Ot.turn_er, and_self, vl_v, ow_o, gt_zero, gt_succ, pt_zero, pt_succ, kil_nil, kil_cons, Rs.bind_ok, Rs.to_ok, Rs.calm_ok, Ot.then_nx, Ot.then_rt, Ot.then_bk, Ot.then_ct, Ot.turn_nx, Ot.turn_ct, Ot.turn_bk, Ot.turn_rt, chg, asInt_int, isOwn_v, isOwn_o, isOwn_none, g_nm, g_tp, g_n, g_c, List.map_cons, List.map_nil, List.length_cons, List.length_nil, List.cons_append, List.nil_append, List.replicate_succ, List.replicate_zero, Nat.reduceSub, Nat.reduceAdd, Nat.reduceLeDiff, Nat.le_refl, Nat.zero_le, Nat.sub_self, Nat.reduceEqDiff, if_true, if_false, ite_true, ite_false, Bool.false_eq_true, decide_true, decide_false, beq_self_eq_true, List.any_cons, List.any_nil, Bool.or_false, Bool.false_or, Bool.or_true, Bool.and_true, Bool.true_and, Bool.false_and, Bool.and_false, Bool.not_true, Bool.not_false, reduceIte, Int.reduceLT, Int.reduceLE, Int.reduceNeg, Int.reducePow, Int.reduceToNat, Int.reduceSub, Int.reduceAdd, Int.reduceMul, decide_eq_true_eq, Int.toNat_natCast, okR, run_eq, out_nx, out_rt, beqT, beqF, and_self, Bool.true_or, Bool.or_self, b_addi, b_adds, b_addl, b_addt, b_sub, b_mul, b_div, b_mod, b_pow, c_eq, c_ne, c_lt, c_ltt, k_mn, nd_n, nd_b, nd_i, nd_s, nd_l, nd_t, nd_0, nd_c, c_le, c_gt, c_ge, c_is0, c_isi, c_iss, c_isl, c_ist, c_isb, c_no0, c_noi, c_nos, c_nol, c_not, c_nob, c_in, c_ni, u_n, u_b, u_i, u_s, u_l, u_t, f_lenl, f_lent, f_lens, f_ll, f_lt, f_tl, f_tt, f_int, f_bool, f_str, f_max2, f_min2, f_max, f_min, f_sum, f_sumt, l_s, c_les, g_ai, z_ll, z_lt, z_tl, z_tt, min_ints, min_t, mx_ints, mx_t, s_l, s_t, l_l, l_t, a_l, e_l, j_l, j_t, m_x, isn_i, isn_b, isn_s, isn_l, isn_t, isn_n, evb1, evb2, evc0, evc1, andB1, andB2, fl_n, fl_b, fl_i, fl_s, fl_t, fb_0, fb_i, fb_b, fb_s, b_rep, asBool_bool, n_10, Nat.reduceLT, tx_s, eqD_int, eqD_str, eqD_bool, eqD_nil_int, n_10, Nat.reduceLT, n_10, Nat.reduceLT, n_10, Nat.reduceLT, n_10, Nat.reduceLT, n_10, Nat.reduceLT, n_10, Nat.reduceLT, q_ev0, q_ev1, q_ev2, q_ev3, q_ev4, q_ev5, q_ev6, q_ev7, q_ev8, q_ev9, q_ev10, q_ev11, q_ev12, q_ev13, q_ev14, q_ev15, q_ev16, q_ev17, q_ev18, q_ev19, q_ev20, q_ev21, q_ev22, q_ev23, q_ev24, q_ev25, q_ev26, q_ev27, q_ev28, q_ev29, q_ev30, q_ev31, q_ev32, q_ev33, q_ev34, q_ev35, q_ev36, q_evs0, q_evs1, q_evo0, q_evo1, q_evw0, q_evw1, q_evw2, q_evw3, q_evw4, q_evw5, q_evw6, q_evw7, q_ex0, q_ex1, q_ex2, q_ex3, q_ex4, q_ex5, q_ex6, q_ex7, q_ex8, q_ex9, q_ex10, q_ex11, q_ex12, q_ex13, q_ex14, q_ex15, q_ex16, q_ex17, q_ex18, q_ex19, q_ex20, q_ex21, q_ex22, q_ex23, q_ex24, q_ex25, q_exs0, q_exs1, q_exs2, q_exs3, n_10, Nat.reduceLT, fn_rotated_0, fn_turn_print_0, fn_cut_print_0, fn_cut_print_1, gn_check_size_0, fn_join_prints_0, fn_join_prints_1, fn_work_and_turn_0, fn_work_and_turn_1, fn_work_and_tumble_0, fn_work_and_tumble_1, fn_printing_method_0, fn__law_same_0, fn__law_print_0, fn__law_print_1, fn__law_told_0, fn__law_told_1, fn__law_wider_0, fn_law_0, fn_law_1, fn_law_2, fn_law_3, fn_law_4, fn_law_5, fn_law_6, fn_law_7, fn_law_8, List.length_map, hlen, List.map_append]
          simp only [rowD, List.map_map]
          rfl
        · intro j hj
          have hj' := List.mem_range.mp hj
          have hix3 : ixD (.list (l.map fun i => .int i)) (.int ((side : Int) * 32 + (k : Int) * 8 + (j : Int))) = .ok (.int (l.getD (side * 32 + k * 8 + j) 0)) := ix_list (by
            rw [show (side : Int) * 32 + (k : Int) * 8 + (j : Int) = ((side * 32 + k * 8 + j : Nat) : Int) by omega, at_nat, List.getElem?_map, getD_some (0 : Int) (by omega)]
            rfl)
          simp (implicitDefEqProofs := false) only [out_er, r_x, r_call, r_cv, r_ife, pick_c, isFn_fn, h_fld, h_var, h_non, h_bl, h_int, h_str, h_cmp, h_bo, h_nt, h_ife, h_ret, h_ifr, fld_1, cmpH_ss, cmpH_ii, par_2, par_3, f0_s, f0_i, eq_self, fl_all1, zip_1, Rs.toX_ok, Rs.toX_er, Rs.toX_st, Ot.catch_nx, Ot.catch_rt, Ot.catch_bk, Ot.catch_ct, Ot.catch_er, Ot.catch_st, Ot.then_er, Ot.turn_er, and_self, vl_v, ow_o, gt_zero, gt_succ, pt_zero, pt_succ, kil_nil, kil_cons, Rs.bind_ok, Rs.to_ok, Rs.calm_ok, Ot.then_nx, Ot.then_rt, Ot.then_bk, Ot.then_ct, Ot.turn_nx, Ot.turn_ct, Ot.turn_bk, Ot.turn_rt, chg, asInt_int, isOwn_v, isOwn_o, isOwn_none, g_nm, g_tp, g_n, g_c, List.map_cons, List.map_nil, List.length_cons, List.length_nil, List.cons_append, List.nil_append, List.replicate_succ, List.replicate_zero, Nat.reduceSub, Nat.reduceAdd, Nat.reduceLeDiff, Nat.le_refl, Nat.zero_le, Nat.sub_self, Nat.reduceEqDiff, if_true, if_false, ite_true, ite_false, Bool.false_eq_true, decide_true, decide_false, beq_self_eq_true, List.any_cons, List.any_nil, Bool.or_false, Bool.false_or, Bool.or_true, Bool.and_true, Bool.true_and, Bool.false_and, Bool.and_false, Bool.not_true, Bool.not_false, reduceIte, Int.reduceLT, Int.reduceLE, Int.reduceNeg, Int.reducePow, Int.reduceToNat, Int.reduceSub, Int.reduceAdd, Int.reduceMul, decide_eq_true_eq, Int.toNat_natCast, okR, run_eq, out_nx, out_rt, beqT, beqF, and_self, Bool.true_or, Bool.or_self, b_addi, b_adds, b_addl, b_addt, b_sub, b_mul, b_div, b_mod, b_pow, c_eq, c_ne, c_lt, c_ltt, k_mn, nd_n, nd_b, nd_i, nd_s, nd_l, nd_t, nd_0, nd_c, c_le, c_gt, c_ge, c_is0, c_isi, c_iss, c_isl, c_ist, c_isb, c_no0, c_noi, c_nos, c_nol, c_not, c_nob, c_in, c_ni, u_n, u_b, u_i, u_s, u_l, u_t, f_lenl, f_lent, f_lens, f_ll, f_lt, f_tl, f_tt, f_int, f_bool, f_str, f_max2, f_min2, f_max, f_min, f_sum, f_sumt, l_s, c_les, g_ai, z_ll, z_lt, z_tl, z_tt, min_ints, min_t, mx_ints, mx_t, s_l, s_t, l_l, l_t, a_l, e_l, j_l, j_t, m_x, isn_i, isn_b, isn_s, isn_l, isn_t, isn_n, evb1, evb2, evc0, evc1, andB1, andB2, fl_n, fl_b, fl_i, fl_s, fl_t, fb_0, fb_i, fb_b, fb_s, b_rep, asBool_bool, n_10, Nat.reduceLT, tx_s, eqD_int, eqD_str, eqD_bool, eqD_nil_int, n_10, Nat.reduceLT, n_10, Nat.reduceLT, n_10, Nat.reduceLT, n_10, Nat.reduceLT, n_10, Nat.reduceLT, n_10, Nat.reduceLT, q_ev0, q_ev1, q_ev2, q_ev3, q_ev4, q_ev5, q_ev6, q_ev7, q_ev8, q_ev9, q_ev10, q_ev11, q_ev12, q_ev13, q_ev14, q_ev15, q_ev16, q_ev17, q_ev18, q_ev19, q_ev20, q_ev21, q_ev22, q_ev23, q_ev24, q_ev25, q_ev26, q_ev27, q_ev28, q_ev29, q_ev30, q_ev31, q_ev32, q_ev33, q_ev34, q_ev35, q_ev36, q_evs0, q_evs1, q_evo0, q_evo1, q_evw0, q_evw1, q_evw2, q_evw3, q_evw4, q_evw5, q_evw6, q_evw7, q_ex0, q_ex1, q_ex2, q_ex3, q_ex4, q_ex5, q_ex6, q_ex7, q_ex8, q_ex9, q_ex10, q_ex11, q_ex12, q_ex13, q_ex14, q_ex15, q_ex16, q_ex17, q_ex18, q_ex19, q_ex20, q_ex21, q_ex22, q_ex23, q_ex24, q_ex25, q_exs0, q_exs1, q_exs2, q_exs3, n_10, Nat.reduceLT, fn_rotated_0, fn_turn_print_0, fn_cut_print_0, fn_cut_print_1, gn_check_size_0, fn_join_prints_0, fn_join_prints_1, fn_work_and_turn_0, fn_work_and_turn_1, fn_work_and_tumble_0, fn_work_and_tumble_1, fn_printing_method_0, fn__law_same_0, fn__law_print_0, fn__law_print_1, fn__law_told_0, fn__law_told_1, fn__law_wider_0, fn_law_0, fn_law_1, fn_law_2, fn_law_3, fn_law_4, fn_law_5, fn_law_6, fn_law_7, fn_law_8, hix3, hpos]
          rfl
      · rw [List.length_append, hm1]; rfl
      · intro r hr'
        rcases List.mem_append.mp hr' with h | h
        · exact hm2 r h
        · simp at h; subst h; simp
  refine ⟨made, ?_, by rw [k1, k3]⟩
  simpa using k2
theorem outer {ds : List Int} {rows cols : Int} {l : List Int} (hd : ds.length = 3) (hl : l.length = 64) (hr : 1 ≤ rows ∧ rows ≤ 4) (hc : 1 ≤ cols ∧ cols ≤ 4) :
    ∃ f b, Rc rows.toNat cols.toNat f ∧ Rc rows.toNat cols.toNat b ∧ forR (.nm 7) [0, 1, 7, 8, 9, 10, 11, 12] (exs c__law_print b__law_print_1) ((List.range 2).map fun (k : Nat) => (.int (k : Int) : D)) (F1 ds rows cols l []) = .nx (F1 ds rows cols l [f, b]) := by
  have r1 : (-16777216 : Int) ≤ rows := by omega
  have r2 : rows ≤ (16777216 : Int) := by omega
  obtain ⟨e', k1, sides, k2, k3, k4⟩ := forR_inv (t := .nm 7) (kl := [0, 1, 7, 8, 9, 10, 11, 12]) (body := exs c__law_print b__law_print_1) (i := fun (k : Nat) => (.int (k : Int) : D)) (fun k e => ∃ sides, sides.length = k ∧ (∀ s ∈ sides, Rc rows.toNat cols.toNat s) ∧ e = F1 ds rows cols l sides) (List.range 2) 0
    (F1 ds rows cols l []) ⟨[], rfl, by simp, rfl⟩ fun k x e hk he => by
      obtain ⟨sides, hm1, hm2, rfl⟩ := he
      obtain ⟨hx1, hx2⟩ := List.getElem?_eq_some_iff.mp hk
      simp only [List.length_range] at hx1
      simp only [List.getElem_range] at hx2
      subst hx2
      rw [Nat.zero_add] at *
      obtain ⟨made, g1, g2⟩ := inner (sides := sides) hd hl hr hc hx1
      have hlen : sides.length < 16777216 := by omega
      refine ⟨_, rfl, F1 ds rows cols l (sides ++ [made]), fun f => ?_, sides ++ [made], by rw [List.length_append, hm1]; rfl, fun s hs => ?_, rfl⟩
      · have g2' := g2
        unfold F2 at g2'
        simp only [List.map_nil] at g2'
        simp (implicitDefEqProofs := false) only [out_er, r_x, r_call, r_cv, r_ife, pick_c, isFn_fn, h_fld, h_var, h_non, h_bl, h_int, h_str, h_cmp, h_bo, h_nt, h_ife, h_ret, h_ifr, fld_1, cmpH_ss, cmpH_ii, par_2, par_3, f0_s, f0_i, eq_self, fl_all1, zip_1, Rs.toX_ok, Rs.toX_er, Rs.toX_st, Ot.catch_nx, Ot.catch_rt, Ot.catch_bk, Ot.catch_ct, Ot.catch_er, Ot.catch_st, Ot.then_er, Ot.turn_er, and_self, vl_v, ow_o, gt_zero, gt_succ, pt_zero, pt_succ, kil_nil, kil_cons, Rs.bind_ok, Rs.to_ok, Rs.calm_ok, Ot.then_nx, Ot.then_rt, Ot.then_bk, Ot.then_ct, Ot.turn_nx, Ot.turn_ct, Ot.turn_bk, Ot.turn_rt, chg, asInt_int, isOwn_v, isOwn_o, isOwn_none, g_nm, g_tp, g_n, g_c, List.map_cons, List.map_nil, List.length_cons, List.length_nil, List.cons_append, List.nil_append, List.replicate_succ, List.replicate_zero, Nat.reduceSub, Nat.reduceAdd, Nat.reduceLeDiff, Nat.le_refl, Nat.zero_le, Nat.sub_self, Nat.reduceEqDiff, if_true, if_false, ite_true, ite_false, Bool.false_eq_true, decide_true, decide_false, beq_self_eq_true, List.any_cons, List.any_nil, Bool.or_false, Bool.false_or, Bool.or_true, Bool.and_true, Bool.true_and, Bool.false_and, Bool.and_false, Bool.not_true, Bool.not_false, reduceIte, Int.reduceLT, Int.reduceLE, Int.reduceNeg, Int.reducePow, Int.reduceToNat, Int.reduceSub, Int.reduceAdd, Int.reduceMul, decide_eq_true_eq, Int.toNat_natCast, okR, run_eq, out_nx, out_rt, beqT, beqF, and_self, Bool.true_or, Bool.or_self, b_addi, b_adds, b_addl, b_addt, b_sub, b_mul, b_div, b_mod, b_pow, c_eq, c_ne, c_lt, c_ltt, k_mn, nd_n, nd_b, nd_i, nd_s, nd_l, nd_t, nd_0, nd_c, c_le, c_gt, c_ge, c_is0, c_isi, c_iss, c_isl, c_ist, c_isb, c_no0, c_noi, c_nos, c_nol, c_not, c_nob, c_in, c_ni, u_n, u_b, u_i, u_s, u_l, u_t, f_lenl, f_lent, f_lens, f_ll, f_lt, f_tl, f_tt, f_int, f_bool, f_str, f_max2, f_min2, f_max, f_min, f_sum, f_sumt, l_s, c_les, g_ai, z_ll, z_lt, z_tl, z_tt, min_ints, min_t, mx_ints, mx_t, s_l, s_t, l_l, l_t, a_l, e_l, j_l, j_t, m_x, isn_i, isn_b, isn_s, isn_l, isn_t, isn_n, evb1, evb2, evc0, evc1, andB1, andB2, fl_n, fl_b, fl_i, fl_s, fl_t, fb_0, fb_i, fb_b, fb_s, b_rep, asBool_bool, n_10, Nat.reduceLT, tx_s, eqD_int, eqD_str, eqD_bool, eqD_nil_int, n_10, Nat.reduceLT, n_10, Nat.reduceLT, n_10, Nat.reduceLT, n_10, Nat.reduceLT, n_10, Nat.reduceLT, n_10, Nat.reduceLT, q_ev0, q_ev1, q_ev2, q_ev3, q_ev4, q_ev5, q_ev6, q_ev7, q_ev8, q_ev9, q_ev10, q_ev11, q_ev12, q_ev13, q_ev14, q_ev15, q_ev16, q_ev17, q_ev18, q_ev19, q_ev20, q_ev21, q_ev22, q_ev23, q_ev24, q_ev25, q_ev26, q_ev27, q_ev28, q_ev29, q_ev30, q_ev31, q_ev32, q_ev33, q_ev34, q_ev35, q_ev36, q_evs0, q_evs1, q_evo0, q_evo1, q_evw0, q_evw1, q_evw2, q_evw3, q_evw4, q_evw5, q_evw6, q_evw7, q_ex0, q_ex1, q_ex2, q_ex3, q_ex4, q_ex5, q_ex6, q_ex7, q_ex8, q_ex9, q_ex10, q_ex11, q_ex12, q_ex13, q_ex14, q_ex15, q_ex16, q_ex17, q_ex18, q_ex19, q_ex20, q_ex21, q_ex22, q_ex23, q_ex24, q_ex25, q_exs0, q_exs1, q_exs2, q_exs3, n_10, Nat.reduceLT, fn_rotated_0, fn_turn_print_0, fn_cut_print_0, fn_cut_print_1, gn_check_size_0, fn_join_prints_0, fn_join_prints_1, fn_work_and_turn_0, fn_work_and_turn_1, fn_work_and_tumble_0, fn_work_and_tumble_1, fn_printing_method_0, fn__law_same_0, fn__law_print_0, fn__law_print_1, fn__law_told_0, fn__law_told_1, fn__law_wider_0, fn_law_0, fn_law_1, fn_law_2, fn_law_3, fn_law_4, fn_law_5, fn_law_6, fn_law_7, fn_law_8, F1, b__law_print_1, r1, r2, rng0, g2', List.length_map, hlen, List.map_append]
        rfl
      · rcases List.mem_append.mp hs with h | h
        · exact hm2 s h
        · simp at h; subst h; exact g1
  have k2' : sides.length = 2 := by simpa using k2
  match sides, k2', k3, k4 with
  | [f, b], _, k3, k4 => exact ⟨f, b, k3 f (by simp), k3 b (by simp), by rw [k1, k4]⟩
theorem print_ok (ns : List Int) (st x0 x1 : Int) (c0 : d__law_cell [.list (ns.map fun i => .int i), .int st] = .ok (.int x0)) (c1 : d__law_cell [.list (ns.map fun i => .int i), .int (st + 1)] = .ok (.int x1)) :
    ∃ n m f b, (1 ≤ n ∧ n ≤ 4) ∧ (1 ≤ m ∧ m ≤ 4) ∧ Rc n m f ∧ Rc n m b ∧ d__law_print [.list (ns.map fun i => .int i), .int st] = .ok (prD (f, b)) := by
  obtain ⟨ds, hd, _, e1⟩ := draws_ok x0 3 (by omega)
  obtain ⟨l, hl, _, e2⟩ := draws_ok x1 64 (by omega)
  have e1 : d__law_draws [.int x0, .int 3] = .ok (.list (ds.map fun i => .int i)) := e1
  have e2 : d__law_draws [.int x1, .int 64] = .ok (.list (l.map fun i => .int i)) := e2
  have h0 : ixD (.list (ds.map fun i => .int i)) (.int 0) = .ok (.int (ds.getD 0 0)) := ix_list (by
    rw [at_pos _ (by decide), List.getElem?_map]
    show Option.map _ ds[0]? = _
    rw [getD_some (0 : Int) (by omega)]
    rfl)
  have h1 : ixD (.list (ds.map fun i => .int i)) (.int 1) = .ok (.int (ds.getD 1 0)) := ix_list (by
    rw [at_pos _ (by decide), List.getElem?_map]
    show Option.map _ ds[1]? = _
    rw [getD_some (0 : Int) (by omega)]
    rfl)
  generalize hrows : 1 + ds.getD 0 0 % 4 = rows
  generalize hcols : 1 + ds.getD 1 0 % 4 = cols
  obtain ⟨f, b, g1, g2, g3⟩ := outer (rows := rows) (cols := cols) hd hl (by omega) (by omega)
  refine ⟨rows.toNat, cols.toNat, f, b, by omega, by omega, g1, g2, ?_⟩
  have g3' := g3
  unfold F1 at g3'
  simp only [List.map_nil] at g3'
  have hx0 : ixD (.list ([f, b].map sideD)) (.int 0) = .ok (sideD f) := rfl
  have hx1 : ixD (.list ([f, b].map sideD)) (.int 1) = .ok (sideD b) := rfl
  have hr2 : rng 0 2 = (List.range 2).map fun (k : Nat) => (.int (k : Int) : D) := rng0 2
  have ht2 : (2 : Int).toNat = 2 := rfl
  simp (implicitDefEqProofs := false) only [out_er, r_x, r_call, r_cv, r_ife, pick_c, isFn_fn, h_fld, h_var, h_non, h_bl, h_int, h_str, h_cmp, h_bo, h_nt, h_ife, h_ret, h_ifr, fld_1, cmpH_ss, cmpH_ii, par_2, par_3, f0_s, f0_i, eq_self, fl_all1, zip_1, Rs.toX_ok, Rs.toX_er, Rs.toX_st, Ot.catch_nx, Ot.catch_rt, Ot.catch_bk, Ot.catch_ct, Ot.catch_er, Ot.catch_st, Ot.then_er, Ot.turn_er, and_self, vl_v, ow_o, gt_zero, gt_succ, pt_zero, pt_succ, kil_nil, kil_cons, Rs.bind_ok, Rs.to_ok, Rs.calm_ok, Ot.then_nx, Ot.then_rt, Ot.then_bk, Ot.then_ct, Ot.turn_nx, Ot.turn_ct, Ot.turn_bk, Ot.turn_rt, chg, asInt_int, isOwn_v, isOwn_o, isOwn_none, g_nm, g_tp, g_n, g_c, List.map_cons, List.map_nil, List.length_cons, List.length_nil, List.cons_append, List.nil_append, List.replicate_succ, List.replicate_zero, Nat.reduceSub, Nat.reduceAdd, Nat.reduceLeDiff, Nat.le_refl, Nat.zero_le, Nat.sub_self, Nat.reduceEqDiff, if_true, if_false, ite_true, ite_false, Bool.false_eq_true, decide_true, decide_false, beq_self_eq_true, List.any_cons, List.any_nil, Bool.or_false, Bool.false_or, Bool.or_true, Bool.and_true, Bool.true_and, Bool.false_and, Bool.and_false, Bool.not_true, Bool.not_false, reduceIte, Int.reduceLT, Int.reduceLE, Int.reduceNeg, Int.reducePow, Int.reduceToNat, Int.reduceSub, Int.reduceAdd, Int.reduceMul, decide_eq_true_eq, Int.toNat_natCast, okR, run_eq, out_nx, out_rt, beqT, beqF, and_self, Bool.true_or, Bool.or_self, b_addi, b_adds, b_addl, b_addt, b_sub, b_mul, b_div, b_mod, b_pow, c_eq, c_ne, c_lt, c_ltt, k_mn, nd_n, nd_b, nd_i, nd_s, nd_l, nd_t, nd_0, nd_c, c_le, c_gt, c_ge, c_is0, c_isi, c_iss, c_isl, c_ist, c_isb, c_no0, c_noi, c_nos, c_nol, c_not, c_nob, c_in, c_ni, u_n, u_b, u_i, u_s, u_l, u_t, f_lenl, f_lent, f_lens, f_ll, f_lt, f_tl, f_tt, f_int, f_bool, f_str, f_max2, f_min2, f_max, f_min, f_sum, f_sumt, l_s, c_les, g_ai, z_ll, z_lt, z_tl, z_tt, min_ints, min_t, mx_ints, mx_t, s_l, s_t, l_l, l_t, a_l, e_l, j_l, j_t, m_x, isn_i, isn_b, isn_s, isn_l, isn_t, isn_n, evb1, evb2, evc0, evc1, andB1, andB2, fl_n, fl_b, fl_i, fl_s, fl_t, fb_0, fb_i, fb_b, fb_s, b_rep, asBool_bool, n_10, Nat.reduceLT, tx_s, eqD_int, eqD_str, eqD_bool, eqD_nil_int, n_10, Nat.reduceLT, n_10, Nat.reduceLT, n_10, Nat.reduceLT, n_10, Nat.reduceLT, n_10, Nat.reduceLT, n_10, Nat.reduceLT, q_ev0, q_ev1, q_ev2, q_ev3, q_ev4, q_ev5, q_ev6, q_ev7, q_ev8, q_ev9, q_ev10, q_ev11, q_ev12, q_ev13, q_ev14, q_ev15, q_ev16, q_ev17, q_ev18, q_ev19, q_ev20, q_ev21, q_ev22, q_ev23, q_ev24, q_ev25, q_ev26, q_ev27, q_ev28, q_ev29, q_ev30, q_ev31, q_ev32, q_ev33, q_ev34, q_ev35, q_ev36, q_evs0, q_evs1, q_evo0, q_evo1, q_evw0, q_evw1, q_evw2, q_evw3, q_evw4, q_evw5, q_evw6, q_evw7, q_ex0, q_ex1, q_ex2, q_ex3, q_ex4, q_ex5, q_ex6, q_ex7, q_ex8, q_ex9, q_ex10, q_ex11, q_ex12, q_ex13, q_ex14, q_ex15, q_ex16, q_ex17, q_ex18, q_ex19, q_ex20, q_ex21, q_ex22, q_ex23, q_ex24, q_ex25, q_exs0, q_exs1, q_exs2, q_exs3, n_10, Nat.reduceLT, fn_rotated_0, fn_turn_print_0, fn_cut_print_0, fn_cut_print_1, gn_check_size_0, fn_join_prints_0, fn_join_prints_1, fn_work_and_turn_0, fn_work_and_turn_1, fn_work_and_tumble_0, fn_work_and_tumble_1, fn_printing_method_0, fn__law_same_0, fn__law_print_0, fn__law_print_1, fn__law_told_0, fn__law_told_1, fn__law_wider_0, fn_law_0, fn_law_1, fn_law_2, fn_law_3, fn_law_4, fn_law_5, fn_law_6, fn_law_7, fn_law_8, d__law_print, ir__law_print, c0, c1, e1, e2, h0, h1, hrows, hcols, ht2, hr2, g3', hx0, hx1]
  rfl
end Bk
namespace Bk
open PySem PySem.Spec PyProof.Rows L2
/-! ### cutting -/
theorem cut_map {α β : Type} (f : α → β) (xs : List α) (lo hi : Option Int) : cut (xs.map f) lo hi = (cut xs lo hi).map f := by
  unfold cut
  rw [List.length_map, List.map_take, List.map_drop]
def cc (s : Sd) (lo hi : Option Int) : Sd := s.map fun r => cut r lo hi
theorem sl_row (r : Rw) (lo hi : Option Int) : slD (rowD r) lo hi = .ok (rowD (cut r lo hi)) := by
  rw [rowD, l_t, cut_map]
  rfl
theorem sl_side (s : Sd) (lo hi : Option Int) : slD (sideD s) lo hi = .ok (sideD (cut s lo hi)) := by
  rw [sideD, l_t, cut_map]
  rfl
theorem ix_side {n m : Nat} {s : Sd} (h : Rc n m s) (hn : 1 ≤ n) : ∃ r, ixD (sideD s) (.int 0) = .ok (rowD r) ∧ r.length = m := by
  obtain ⟨r, h1, h2⟩ := rc_row h hn
  refine ⟨r, ix_tup ?_, h2⟩
  rw [at_pos _ (by decide), List.getElem?_map]
  show Option.map _ s[0]? = _
  rw [h1]
  rfl
theorem len_row (r : Rw) : biD .len [rowD r] = .ok (.int (r.length : Int)) := by
  rw [rowD, f_lent, List.length_map]
theorem len_side (s : Sd) : biD .len [sideD s] = .ok (.int (s.length : Int)) := by
  rw [sideD, f_lent, List.length_map]
theorem ix_pr0 (p : Sd × Sd) : ixD (prD p) (.int 0) = .ok (sideD p.1) := rfl
theorem ix_pr1 (p : Sd × Sd) : ixD (prD p) (.int 1) = .ok (sideD p.2) := rfl
theorem side_map (s : Sd) (lo hi : Option Int) : (.tuple (s.map fun r => rowD (cut r lo hi)) : D) = sideD (cc s lo hi) := by
  rw [sideD, cc, List.map_map]
  rfl
theorem seq_side (s : Sd) : seqD (sideD s) = .ok (s.map rowD) := rfl
theorem pr_of (f b : Sd) : (.tuple [sideD f, sideD b] : D) = prD (f, b) := rfl
theorem poc {n m : Nat} {f b : Sd} (hf : Rc n m f) (hn : 1 ≤ n) (a c : Int) : d_part_of_columns [prD (f, b), .int a, .int c] = .ok (prD (cc f (some a) (some c), cc b (some ((m : Int) - c)) (some ((m : Int) - a)))) := by
  obtain ⟨r, h1, h2⟩ := ix_side hf hn
  simp (implicitDefEqProofs := false) only [out_er, r_x, r_call, r_cv, r_ife, pick_c, isFn_fn, h_fld, h_var, h_non, h_bl, h_int, h_str, h_cmp, h_bo, h_nt, h_ife, h_ret, h_ifr, fld_1, cmpH_ss, cmpH_ii, par_2, par_3, f0_s, f0_i, eq_self, fl_all1, zip_1, Rs.toX_ok, Rs.toX_er, Rs.toX_st, Ot.catch_nx, Ot.catch_rt, Ot.catch_bk, Ot.catch_ct, Ot.catch_er, Ot.catch_st, Ot.then_er, Ot.turn_er, and_self, vl_v, ow_o, gt_zero, gt_succ, pt_zero, pt_succ, kil_nil, kil_cons, Rs.bind_ok, Rs.to_ok, Rs.calm_ok, Ot.then_nx, Ot.then_rt, Ot.then_bk, Ot.then_ct, Ot.turn_nx, Ot.turn_ct, Ot.turn_bk, Ot.turn_rt, chg, asInt_int, isOwn_v, isOwn_o, isOwn_none, g_nm, g_tp, g_n, g_c, List.map_cons, List.map_nil, List.length_cons, List.length_nil, List.cons_append, List.nil_append, List.replicate_succ, List.replicate_zero, Nat.reduceSub, Nat.reduceAdd, Nat.reduceLeDiff, Nat.le_refl, Nat.zero_le, Nat.sub_self, Nat.reduceEqDiff, if_true, if_false, ite_true, ite_false, Bool.false_eq_true, decide_true, decide_false, beq_self_eq_true, List.any_cons, List.any_nil, Bool.or_false, Bool.false_or, Bool.or_true, Bool.and_true, Bool.true_and, Bool.false_and, Bool.and_false, Bool.not_true, Bool.not_false, reduceIte, Int.reduceLT, Int.reduceLE, Int.reduceNeg, Int.reducePow, Int.reduceToNat, Int.reduceSub, Int.reduceAdd, Int.reduceMul, decide_eq_true_eq, Int.toNat_natCast, okR, run_eq, out_nx, out_rt, beqT, beqF, and_self, Bool.true_or, Bool.or_self, b_addi, b_adds, b_addl, b_addt, b_sub, b_mul, b_div, b_mod, b_pow, c_eq, c_ne, c_lt, c_ltt, k_mn, nd_n, nd_b, nd_i, nd_s, nd_l, nd_t, nd_0, nd_c, c_le, c_gt, c_ge, c_is0, c_isi, c_iss, c_isl, c_ist, c_isb, c_no0, c_noi, c_nos, c_nol, c_not, c_nob, c_in, c_ni, u_n, u_b, u_i, u_s, u_l, u_t, f_lenl, f_lent, f_lens, f_ll, f_lt, f_tl, f_tt, f_int, f_bool, f_str, f_max2, f_min2, f_max, f_min, f_sum, f_sumt, l_s, c_les, g_ai, z_ll, z_lt, z_tl, z_tt, min_ints, min_t, mx_ints, mx_t, s_l, s_t, l_l, l_t, a_l, e_l, j_l, j_t, m_x, isn_i, isn_b, isn_s, isn_l, isn_t, isn_n, evb1, evb2, evc0, evc1, andB1, andB2, fl_n, fl_b, fl_i, fl_s, fl_t, fb_0, fb_i, fb_b, fb_s, b_rep, asBool_bool, n_10, Nat.reduceLT, tx_s, eqD_int, eqD_str, eqD_bool, eqD_nil_int, n_10, Nat.reduceLT, n_10, Nat.reduceLT, n_10, Nat.reduceLT, n_10, Nat.reduceLT, n_10, Nat.reduceLT, n_10, Nat.reduceLT, q_ev0, q_ev1, q_ev2, q_ev3, q_ev4, q_ev5, q_ev6, q_ev7, q_ev8, q_ev9, q_ev10, q_ev11, q_ev12, q_ev13, q_ev14, q_ev15, q_ev16, q_ev17, q_ev18, q_ev19, q_ev20, q_ev21, q_ev22, q_ev23, q_ev24, q_ev25, q_ev26, q_ev27, q_ev28, q_ev29, q_ev30, q_ev31, q_ev32, q_ev33, q_ev34, q_ev35, q_ev36, q_evs0, q_evs1, q_evo0, q_evo1, q_evw0, q_evw1, q_evw2, q_evw3, q_evw4, q_evw5, q_evw6, q_evw7, q_ex0, q_ex1, q_ex2, q_ex3, q_ex4, q_ex5, q_ex6, q_ex7, q_ex8, q_ex9, q_ex10, q_ex11, q_ex12, q_ex13, q_ex14, q_ex15, q_ex16, q_ex17, q_ex18, q_ex19, q_ex20, q_ex21, q_ex22, q_ex23, q_ex24, q_ex25, q_exs0, q_exs1, q_exs2, q_exs3, n_10, Nat.reduceLT, fn_rotated_0, fn_turn_print_0, fn_cut_print_0, fn_cut_print_1, gn_check_size_0, fn_join_prints_0, fn_join_prints_1, fn_work_and_turn_0, fn_work_and_turn_1, fn_work_and_tumble_0, fn_work_and_tumble_1, fn_printing_method_0, fn__law_same_0, fn__law_print_0, fn__law_print_1, fn__law_told_0, fn__law_told_1, fn__law_wider_0, fn_law_0, fn_law_1, fn_law_2, fn_law_3, fn_law_4, fn_law_5, fn_law_6, fn_law_7, fn_law_8, d_part_of_columns, ir_part_of_columns, pr_asg, h1, len_row, h2, seq_side]
  rw [mapR_map (g := fun (r : Rw) => rowD (cut r (some ((m : Int) - c)) (some ((m : Int) - a))))]
  · simp (implicitDefEqProofs := false) only [out_er, r_x, r_call, r_cv, r_ife, pick_c, isFn_fn, h_fld, h_var, h_non, h_bl, h_int, h_str, h_cmp, h_bo, h_nt, h_ife, h_ret, h_ifr, fld_1, cmpH_ss, cmpH_ii, par_2, par_3, f0_s, f0_i, eq_self, fl_all1, zip_1, Rs.toX_ok, Rs.toX_er, Rs.toX_st, Ot.catch_nx, Ot.catch_rt, Ot.catch_bk, Ot.catch_ct, Ot.catch_er, Ot.catch_st, Ot.then_er, Ot.turn_er, and_self, vl_v, ow_o, gt_zero, gt_succ, pt_zero, pt_succ, kil_nil, kil_cons, Rs.bind_ok, Rs.to_ok, Rs.calm_ok, Ot.then_nx, Ot.then_rt, Ot.then_bk, Ot.then_ct, Ot.turn_nx, Ot.turn_ct, Ot.turn_bk, Ot.turn_rt, chg, asInt_int, isOwn_v, isOwn_o, isOwn_none, g_nm, g_tp, g_n, g_c, List.map_cons, List.map_nil, List.length_cons, List.length_nil, List.cons_append, List.nil_append, List.replicate_succ, List.replicate_zero, Nat.reduceSub, Nat.reduceAdd, Nat.reduceLeDiff, Nat.le_refl, Nat.zero_le, Nat.sub_self, Nat.reduceEqDiff, if_true, if_false, ite_true, ite_false, Bool.false_eq_true, decide_true, decide_false, beq_self_eq_true, List.any_cons, List.any_nil, Bool.or_false, Bool.false_or, Bool.or_true, Bool.and_true, Bool.true_and, Bool.false_and, Bool.and_false, Bool.not_true, Bool.not_false, reduceIte, Int.reduceLT, Int.reduceLE, Int.reduceNeg, Int.reducePow, Int.reduceToNat, Int.reduceSub, Int.reduceAdd, Int.reduceMul, decide_eq_true_eq, Int.toNat_natCast, okR, run_eq, out_nx, out_rt, beqT, beqF, and_self, Bool.true_or, Bool.or_self, b_addi, b_adds, b_addl, b_addt, b_sub, b_mul, b_div, b_mod, b_pow, c_eq, c_ne, c_lt, c_ltt, k_mn, nd_n, nd_b, nd_i, nd_s, nd_l, nd_t, nd_0, nd_c, c_le, c_gt, c_ge, c_is0, c_isi, c_iss, c_isl, c_ist, c_isb, c_no0, c_noi, c_nos, c_nol, c_not, c_nob, c_in, c_ni, u_n, u_b, u_i, u_s, u_l, u_t, f_lenl, f_lent, f_lens, f_ll, f_lt, f_tl, f_tt, f_int, f_bool, f_str, f_max2, f_min2, f_max, f_min, f_sum, f_sumt, l_s, c_les, g_ai, z_ll, z_lt, z_tl, z_tt, min_ints, min_t, mx_ints, mx_t, s_l, s_t, l_l, l_t, a_l, e_l, j_l, j_t, m_x, isn_i, isn_b, isn_s, isn_l, isn_t, isn_n, evb1, evb2, evc0, evc1, andB1, andB2, fl_n, fl_b, fl_i, fl_s, fl_t, fb_0, fb_i, fb_b, fb_s, b_rep, asBool_bool, n_10, Nat.reduceLT, tx_s, eqD_int, eqD_str, eqD_bool, eqD_nil_int, n_10, Nat.reduceLT, n_10, Nat.reduceLT, n_10, Nat.reduceLT, n_10, Nat.reduceLT, n_10, Nat.reduceLT, n_10, Nat.reduceLT, q_ev0, q_ev1, q_ev2, q_ev3, q_ev4, q_ev5, q_ev6, q_ev7, q_ev8, q_ev9, q_ev10, q_ev11, q_ev12, q_ev13, q_ev14, q_ev15, q_ev16, q_ev17, q_ev18, q_ev19, q_ev20, q_ev21, q_ev22, q_ev23, q_ev24, q_ev25, q_ev26, q_ev27, q_ev28, q_ev29, q_ev30, q_ev31, q_ev32, q_ev33, q_ev34, q_ev35, q_ev36, q_evs0, q_evs1, q_evo0, q_evo1, q_evw0, q_evw1, q_evw2, q_evw3, q_evw4, q_evw5, q_evw6, q_evw7, q_ex0, q_ex1, q_ex2, q_ex3, q_ex4, q_ex5, q_ex6, q_ex7, q_ex8, q_ex9, q_ex10, q_ex11, q_ex12, q_ex13, q_ex14, q_ex15, q_ex16, q_ex17, q_ex18, q_ex19, q_ex20, q_ex21, q_ex22, q_ex23, q_ex24, q_ex25, q_exs0, q_exs1, q_exs2, q_exs3, n_10, Nat.reduceLT, fn_rotated_0, fn_turn_print_0, fn_cut_print_0, fn_cut_print_1, gn_check_size_0, fn_join_prints_0, fn_join_prints_1, fn_work_and_turn_0, fn_work_and_turn_1, fn_work_and_tumble_0, fn_work_and_tumble_1, fn_printing_method_0, fn__law_same_0, fn__law_print_0, fn__law_print_1, fn__law_told_0, fn__law_told_1, fn__law_wider_0, fn_law_0, fn_law_1, fn_law_2, fn_law_3, fn_law_4, fn_law_5, fn_law_6, fn_law_7, fn_law_8, seq_side, side_map]
    rw [mapR_map (g := fun (r : Rw) => rowD (cut r (some a) (some c)))]
    · simp (implicitDefEqProofs := false) only [out_er, r_x, r_call, r_cv, r_ife, pick_c, isFn_fn, h_fld, h_var, h_non, h_bl, h_int, h_str, h_cmp, h_bo, h_nt, h_ife, h_ret, h_ifr, fld_1, cmpH_ss, cmpH_ii, par_2, par_3, f0_s, f0_i, eq_self, fl_all1, zip_1, Rs.toX_ok, Rs.toX_er, Rs.toX_st, Ot.catch_nx, Ot.catch_rt, Ot.catch_bk, Ot.catch_ct, Ot.catch_er, Ot.catch_st, Ot.then_er, Ot.turn_er, and_self, vl_v, ow_o, gt_zero, gt_succ, pt_zero, pt_succ, kil_nil, kil_cons, Rs.bind_ok, Rs.to_ok, Rs.calm_ok, Ot.then_nx, Ot.then_rt, Ot.then_bk, Ot.then_ct, Ot.turn_nx, Ot.turn_ct, Ot.turn_bk, Ot.turn_rt, chg, asInt_int, isOwn_v, isOwn_o, isOwn_none, g_nm, g_tp, g_n, g_c, List.map_cons, List.map_nil, List.length_cons, List.length_nil, List.cons_append, List.nil_append, List.replicate_succ, List.replicate_zero, Nat.reduceSub, Nat.reduceAdd, Nat.reduceLeDiff, Nat.le_refl, Nat.zero_le, Nat.sub_self, Nat.reduceEqDiff, if_true, if_false, ite_true, ite_false, Bool.false_eq_true, decide_true, decide_false, beq_self_eq_true, List.any_cons, List.any_nil, Bool.or_false, Bool.false_or, Bool.or_true, Bool.and_true, Bool.true_and, Bool.false_and, Bool.and_false, Bool.not_true, Bool.not_false, reduceIte, Int.reduceLT, Int.reduceLE, Int.reduceNeg, Int.reducePow, Int.reduceToNat, Int.reduceSub, Int.reduceAdd, Int.reduceMul, decide_eq_true_eq, Int.toNat_natCast, okR, run_eq, out_nx, out_rt, beqT, beqF, and_self, Bool.true_or, Bool.or_self, b_addi, b_adds, b_addl, b_addt, b_sub, b_mul, b_div, b_mod, b_pow, c_eq, c_ne, c_lt, c_ltt, k_mn, nd_n, nd_b, nd_i, nd_s, nd_l, nd_t, nd_0, nd_c, c_le, c_gt, c_ge, c_is0, c_isi, c_iss, c_isl, c_ist, c_isb, c_no0, c_noi, c_nos, c_nol, c_not, c_nob, c_in, c_ni, u_n, u_b, u_i, u_s, u_l, u_t, f_lenl, f_lent, f_lens, f_ll, f_lt, f_tl, f_tt, f_int, f_bool, f_str, f_max2, f_min2, f_max, f_min, f_sum, f_sumt, l_s, c_les, g_ai, z_ll, z_lt, z_tl, z_tt, min_ints, min_t, mx_ints, mx_t, s_l, s_t, l_l, l_t, a_l, e_l, j_l, j_t, m_x, isn_i, isn_b, isn_s, isn_l, isn_t, isn_n, evb1, evb2, evc0, evc1, andB1, andB2, fl_n, fl_b, fl_i, fl_s, fl_t, fb_0, fb_i, fb_b, fb_s, b_rep, asBool_bool, n_10, Nat.reduceLT, tx_s, eqD_int, eqD_str, eqD_bool, eqD_nil_int, n_10, Nat.reduceLT, n_10, Nat.reduceLT, n_10, Nat.reduceLT, n_10, Nat.reduceLT, n_10, Nat.reduceLT, n_10, Nat.reduceLT, q_ev0, q_ev1, q_ev2, q_ev3, q_ev4, q_ev5, q_ev6, q_ev7, q_ev8, q_ev9, q_ev10, q_ev11, q_ev12, q_ev13, q_ev14, q_ev15, q_ev16, q_ev17, q_ev18, q_ev19, q_ev20, q_ev21, q_ev22, q_ev23, q_ev24, q_ev25, q_ev26, q_ev27, q_ev28, q_ev29, q_ev30, q_ev31, q_ev32, q_ev33, q_ev34, q_ev35, q_ev36, q_evs0, q_evs1, q_evo0, q_evo1, q_evw0, q_evw1, q_evw2, q_evw3, q_evw4, q_evw5, q_evw6, q_evw7, q_ex0, q_ex1, q_ex2, q_ex3, q_ex4, q_ex5, q_ex6, q_ex7, q_ex8, q_ex9, q_ex10, q_ex11, q_ex12, q_ex13, q_ex14, q_ex15, q_ex16, q_ex17, q_ex18, q_ex19, q_ex20, q_ex21, q_ex22, q_ex23, q_ex24, q_ex25, q_exs0, q_exs1, q_exs2, q_exs3, n_10, Nat.reduceLT, fn_rotated_0, fn_turn_print_0, fn_cut_print_0, fn_cut_print_1, gn_check_size_0, fn_join_prints_0, fn_join_prints_1, fn_work_and_turn_0, fn_work_and_turn_1, fn_work_and_tumble_0, fn_work_and_tumble_1, fn_printing_method_0, fn__law_same_0, fn__law_print_0, fn__law_print_1, fn__law_told_0, fn__law_told_1, fn__law_wider_0, fn_law_0, fn_law_1, fn_law_2, fn_law_3, fn_law_4, fn_law_5, fn_law_6, fn_law_7, fn_law_8, side_map]
      rfl
    · intro r hr
      simp (implicitDefEqProofs := false) only [out_er, r_x, r_call, r_cv, r_ife, pick_c, isFn_fn, h_fld, h_var, h_non, h_bl, h_int, h_str, h_cmp, h_bo, h_nt, h_ife, h_ret, h_ifr, fld_1, cmpH_ss, cmpH_ii, par_2, par_3, f0_s, f0_i, eq_self, fl_all1, zip_1, Rs.toX_ok, Rs.toX_er, Rs.toX_st, Ot.catch_nx, Ot.catch_rt, Ot.catch_bk, Ot.catch_ct, Ot.catch_er, Ot.catch_st, Ot.then_er, Ot.turn_er, and_self, vl_v, ow_o, gt_zero, gt_succ, pt_zero, pt_succ, kil_nil, kil_cons, Rs.bind_ok, Rs.to_ok, Rs.calm_ok, Ot.then_nx, Ot.then_rt, Ot.then_bk, Ot.then_ct, Ot.turn_nx, Ot.turn_ct, Ot.turn_bk, Ot.turn_rt, chg, asInt_int, isOwn_v, isOwn_o, isOwn_none, g_nm, g_tp, g_n, g_c, List.map_cons, List.map_nil, List.length_cons, List.length_nil, List.cons_append, List.nil_append, List.replicate_succ, List.replicate_zero, Nat.reduceSub, Nat.reduceAdd, Nat.reduceLeDiff, Nat.le_refl, Nat.zero_le, Nat.sub_self, Nat.reduceEqDiff, if_true, if_false, ite_true, ite_false, Bool.false_eq_true, decide_true, decide_false, beq_self_eq_true, List.any_cons, List.any_nil, Bool.or_false, Bool.false_or, Bool.or_true, Bool.and_true, Bool.true_and, Bool.false_and, Bool.and_false, Bool.not_true, Bool.not_false, reduceIte, Int.reduceLT, Int.reduceLE, Int.reduceNeg, Int.reducePow, Int.reduceToNat, Int.reduceSub, Int.reduceAdd, Int.reduceMul, decide_eq_true_eq, Int.toNat_natCast, okR, run_eq, out_nx, out_rt, beqT, beqF, and_self, Bool.true_or, Bool.or_self, b_addi, b_adds, b_addl, b_addt, b_sub, b_mul, b_div, b_mod, b_pow, c_eq, c_ne, c_lt, c_ltt, k_mn, nd_n, nd_b, nd_i, nd_s, nd_l, nd_t, nd_0, nd_c, c_le, c_gt, c_ge, c_is0, c_isi, c_iss, c_isl, c_ist, c_isb, c_no0, c_noi, c_nos, c_nol, c_not, c_nob, c_in, c_ni, u_n, u_b, u_i, u_s, u_l, u_t, f_lenl, f_lent, f_lens, f_ll, f_lt, f_tl, f_tt, f_int, f_bool, f_str, f_max2, f_min2, f_max, f_min, f_sum, f_sumt, l_s, c_les, g_ai, z_ll, z_lt, z_tl, z_tt, min_ints, min_t, mx_ints, mx_t, s_l, s_t, l_l, l_t, a_l, e_l, j_l, j_t, m_x, isn_i, isn_b, isn_s, isn_l, isn_t, isn_n, evb1, evb2, evc0, evc1, andB1, andB2, fl_n, fl_b, fl_i, fl_s, fl_t, fb_0, fb_i, fb_b, fb_s, b_rep, asBool_bool, n_10, Nat.reduceLT, tx_s, eqD_int, eqD_str, eqD_bool, eqD_nil_int, n_10, Nat.reduceLT, n_10, Nat.reduceLT, n_10, Nat.reduceLT, n_10, Nat.reduceLT, n_10, Nat.reduceLT, n_10, Nat.reduceLT, q_ev0, q_ev1, q_ev2, q_ev3, q_ev4, q_ev5, q_ev6, q_ev7, q_ev8, q_ev9, q_ev10, q_ev11, q_ev12, q_ev13, q_ev14, q_ev15, q_ev16, q_ev17, q_ev18, q_ev19, q_ev20, q_ev21, q_ev22, q_ev23, q_ev24, q_ev25, q_ev26, q_ev27, q_ev28, q_ev29, q_ev30, q_ev31, q_ev32, q_ev33, q_ev34, q_ev35, q_ev36, q_evs0, q_evs1, q_evo0, q_evo1, q_evw0, q_evw1, q_evw2, q_evw3, q_evw4, q_evw5, q_evw6, q_evw7, q_ex0, q_ex1, q_ex2, q_ex3, q_ex4, q_ex5, q_ex6, q_ex7, q_ex8, q_ex9, q_ex10, q_ex11, q_ex12, q_ex13, q_ex14, q_ex15, q_ex16, q_ex17, q_ex18, q_ex19, q_ex20, q_ex21, q_ex22, q_ex23, q_ex24, q_ex25, q_exs0, q_exs1, q_exs2, q_exs3, n_10, Nat.reduceLT, fn_rotated_0, fn_turn_print_0, fn_cut_print_0, fn_cut_print_1, gn_check_size_0, fn_join_prints_0, fn_join_prints_1, fn_work_and_turn_0, fn_work_and_turn_1, fn_work_and_tumble_0, fn_work_and_tumble_1, fn_printing_method_0, fn__law_same_0, fn__law_print_0, fn__law_print_1, fn__law_told_0, fn__law_told_1, fn__law_wider_0, fn_law_0, fn_law_1, fn_law_2, fn_law_3, fn_law_4, fn_law_5, fn_law_6, fn_law_7, fn_law_8, sl_row]
  · intro r hr
    simp (implicitDefEqProofs := false) only [out_er, r_x, r_call, r_cv, r_ife, pick_c, isFn_fn, h_fld, h_var, h_non, h_bl, h_int, h_str, h_cmp, h_bo, h_nt, h_ife, h_ret, h_ifr, fld_1, cmpH_ss, cmpH_ii, par_2, par_3, f0_s, f0_i, eq_self, fl_all1, zip_1, Rs.toX_ok, Rs.toX_er, Rs.toX_st, Ot.catch_nx, Ot.catch_rt, Ot.catch_bk, Ot.catch_ct, Ot.catch_er, Ot.catch_st, Ot.then_er, Ot.turn_er, and_self, vl_v, ow_o, gt_zero, gt_succ, pt_zero, pt_succ, kil_nil, kil_cons, Rs.bind_ok, Rs.to_ok, Rs.calm_ok, Ot.then_nx, Ot.then_rt, Ot.then_bk, Ot.then_ct, Ot.turn_nx, Ot.turn_ct, Ot.turn_bk, Ot.turn_rt, chg, asInt_int, isOwn_v, isOwn_o, isOwn_none, g_nm, g_tp, g_n, g_c, List.map_cons, List.map_nil, List.length_cons, List.length_nil, List.cons_append, List.nil_append, List.replicate_succ, List.replicate_zero, Nat.reduceSub, Nat.reduceAdd, Nat.reduceLeDiff, Nat.le_refl, Nat.zero_le, Nat.sub_self, Nat.reduceEqDiff, if_true, if_false, ite_true, ite_false, Bool.false_eq_true, decide_true, decide_false, beq_self_eq_true, List.any_cons, List.any_nil, Bool.or_false, Bool.false_or, Bool.or_true, Bool.and_true, Bool.true_and, Bool.false_and, Bool.and_false, Bool.not_true, Bool.not_false, reduceIte, Int.reduceLT, Int.reduceLE, Int.reduceNeg, Int.reducePow, Int.reduceToNat, Int.reduceSub, Int.reduceAdd, Int.reduceMul, decide_eq_true_eq, Int.toNat_natCast, okR, run_eq, out_nx, out_rt, beqT, beqF, and_self, Bool.true_or, Bool.or_self, b_addi, b_adds, b_addl, b_addt, b_sub, b_mul, b_div, b_mod, b_pow, c_eq, c_ne, c_lt, c_ltt, k_mn, nd_n, nd_b, nd_i, nd_s, nd_l, nd_t, nd_0, nd_c, c_le, c_gt, c_ge, c_is0, c_isi, c_iss, c_isl, c_ist, c_isb, c_no0, c_noi, c_nos, c_nol, c_not, c_nob, c_in, c_ni, u_n, u_b, u_i, u_s, u_l, u_t, f_lenl, f_lent, f_lens, f_ll, f_lt, f_tl, f_tt, f_int, f_bool, f_str, f_max2, f_min2, f_max, f_min, f_sum, f_sumt, l_s, c_les, g_ai, z_ll, z_lt, z_tl, z_tt, min_ints, min_t, mx_ints, mx_t, s_l, s_t, l_l, l_t, a_l, e_l, j_l, j_t, m_x, isn_i, isn_b, isn_s, isn_l, isn_t, isn_n, evb1, evb2, evc0, evc1, andB1, andB2, fl_n, fl_b, fl_i, fl_s, fl_t, fb_0, fb_i, fb_b, fb_s, b_rep, asBool_bool, n_10, Nat.reduceLT, tx_s, eqD_int, eqD_str, eqD_bool, eqD_nil_int, n_10, Nat.reduceLT, n_10, Nat.reduceLT, n_10, Nat.reduceLT, n_10, Nat.reduceLT, n_10, Nat.reduceLT, n_10, Nat.reduceLT, q_ev0, q_ev1, q_ev2, q_ev3, q_ev4, q_ev5, q_ev6, q_ev7, q_ev8, q_ev9, q_ev10, q_ev11, q_ev12, q_ev13, q_ev14, q_ev15, q_ev16, q_ev17, q_ev18, q_ev19, q_ev20, q_ev21, q_ev22, q_ev23, q_ev24, q_ev25, q_ev26, q_ev27, q_ev28, q_ev29, q_ev30, q_ev31, q_ev32, q_ev33, q_ev34, q_ev35, q_ev36, q_evs0, q_evs1, q_evo0, q_evo1, q_evw0, q_evw1, q_evw2, q_evw3, q_evw4, q_evw5, q_evw6, q_evw7, q_ex0, q_ex1, q_ex2, q_ex3, q_ex4, q_ex5, q_ex6, q_ex7, q_ex8, q_ex9, q_ex10, q_ex11, q_ex12, q_ex13, q_ex14, q_ex15, q_ex16, q_ex17, q_ex18, q_ex19, q_ex20, q_ex21, q_ex22, q_ex23, q_ex24, q_ex25, q_exs0, q_exs1, q_exs2, q_exs3, n_10, Nat.reduceLT, fn_rotated_0, fn_turn_print_0, fn_cut_print_0, fn_cut_print_1, gn_check_size_0, fn_join_prints_0, fn_join_prints_1, fn_work_and_turn_0, fn_work_and_turn_1, fn_work_and_tumble_0, fn_work_and_tumble_1, fn_printing_method_0, fn__law_same_0, fn__law_print_0, fn__law_print_1, fn__law_told_0, fn__law_told_1, fn__law_wider_0, fn_law_0, fn_law_1, fn_law_2, fn_law_3, fn_law_4, fn_law_5, fn_law_6, fn_law_7, fn_law_8, sl_row]
theorem por (p : Sd × Sd) (a c : Int) : d_part_of_rows [prD p, .int a, .int c] = .ok (prD (cut p.1 (some a) (some c), cut p.2 (some a) (some c))) := by
  simp (implicitDefEqProofs := false) only [out_er, r_x, r_call, r_cv, r_ife, pick_c, isFn_fn, h_fld, h_var, h_non, h_bl, h_int, h_str, h_cmp, h_bo, h_nt, h_ife, h_ret, h_ifr, fld_1, cmpH_ss, cmpH_ii, par_2, par_3, f0_s, f0_i, eq_self, fl_all1, zip_1, Rs.toX_ok, Rs.toX_er, Rs.toX_st, Ot.catch_nx, Ot.catch_rt, Ot.catch_bk, Ot.catch_ct, Ot.catch_er, Ot.catch_st, Ot.then_er, Ot.turn_er, and_self, vl_v, ow_o, gt_zero, gt_succ, pt_zero, pt_succ, kil_nil, kil_cons, Rs.bind_ok, Rs.to_ok, Rs.calm_ok, Ot.then_nx, Ot.then_rt, Ot.then_bk, Ot.then_ct, Ot.turn_nx, Ot.turn_ct, Ot.turn_bk, Ot.turn_rt, chg, asInt_int, isOwn_v, isOwn_o, isOwn_none, g_nm, g_tp, g_n, g_c, List.map_cons, List.map_nil, List.length_cons, List.length_nil, List.cons_append, List.nil_append, List.replicate_succ, List.replicate_zero, Nat.reduceSub, Nat.reduceAdd, Nat.reduceLeDiff, Nat.le_refl, Nat.zero_le, Nat.sub_self, Nat.reduceEqDiff, if_true, if_false, ite_true, ite_false, Bool.false_eq_true, decide_true, decide_false, beq_self_eq_true, List.any_cons, List.any_nil, Bool.or_false, Bool.false_or, Bool.or_true, Bool.and_true, Bool.true_and, Bool.false_and, Bool.and_false, Bool.not_true, Bool.not_false, reduceIte, Int.reduceLT, Int.reduceLE, Int.reduceNeg, Int.reducePow, Int.reduceToNat, Int.reduceSub, Int.reduceAdd, Int.reduceMul, decide_eq_true_eq, Int.toNat_natCast, okR, run_eq, out_nx, out_rt, beqT, beqF, and_self, Bool.true_or, Bool.or_self, b_addi, b_adds, b_addl, b_addt, b_sub, b_mul, b_div, b_mod, b_pow, c_eq, c_ne, c_lt, c_ltt, k_mn, nd_n, nd_b, nd_i, nd_s, nd_l, nd_t, nd_0, nd_c, c_le, c_gt, c_ge, c_is0, c_isi, c_iss, c_isl, c_ist, c_isb, c_no0, c_noi, c_nos, c_nol, c_not, c_nob, c_in, c_ni, u_n, u_b, u_i, u_s, u_l, u_t, f_lenl, f_lent, f_lens, f_ll, f_lt, f_tl, f_tt, f_int, f_bool, f_str, f_max2, f_min2, f_max, f_min, f_sum, f_sumt, l_s, c_les, g_ai, z_ll, z_lt, z_tl, z_tt, min_ints, min_t, mx_ints, mx_t, s_l, s_t, l_l, l_t, a_l, e_l, j_l, j_t, m_x, isn_i, isn_b, isn_s, isn_l, isn_t, isn_n, evb1, evb2, evc0, evc1, andB1, andB2, fl_n, fl_b, fl_i, fl_s, fl_t, fb_0, fb_i, fb_b, fb_s, b_rep, asBool_bool, n_10, Nat.reduceLT, tx_s, eqD_int, eqD_str, eqD_bool, eqD_nil_int, n_10, Nat.reduceLT, n_10, Nat.reduceLT, n_10, Nat.reduceLT, n_10, Nat.reduceLT, n_10, Nat.reduceLT, n_10, Nat.reduceLT, q_ev0, q_ev1, q_ev2, q_ev3, q_ev4, q_ev5, q_ev6, q_ev7, q_ev8, q_ev9, q_ev10, q_ev11, q_ev12, q_ev13, q_ev14, q_ev15, q_ev16, q_ev17, q_ev18, q_ev19, q_ev20, q_ev21, q_ev22, q_ev23, q_ev24, q_ev25, q_ev26, q_ev27, q_ev28, q_ev29, q_ev30, q_ev31, q_ev32, q_ev33, q_ev34, q_ev35, q_ev36, q_evs0, q_evs1, q_evo0, q_evo1, q_evw0, q_evw1, q_evw2, q_evw3, q_evw4, q_evw5, q_evw6, q_evw7, q_ex0, q_ex1, q_ex2, q_ex3, q_ex4, q_ex5, q_ex6, q_ex7, q_ex8, q_ex9, q_ex10, q_ex11, q_ex12, q_ex13, q_ex14, q_ex15, q_ex16, q_ex17, q_ex18, q_ex19, q_ex20, q_ex21, q_ex22, q_ex23, q_ex24, q_ex25, q_exs0, q_exs1, q_exs2, q_exs3, n_10, Nat.reduceLT, fn_rotated_0, fn_turn_print_0, fn_cut_print_0, fn_cut_print_1, gn_check_size_0, fn_join_prints_0, fn_join_prints_1, fn_work_and_turn_0, fn_work_and_turn_1, fn_work_and_tumble_0, fn_work_and_tumble_1, fn_printing_method_0, fn__law_same_0, fn__law_print_0, fn__law_print_1, fn__law_told_0, fn__law_told_1, fn__law_wider_0, fn_law_0, fn_law_1, fn_law_2, fn_law_3, fn_law_4, fn_law_5, fn_law_6, fn_law_7, fn_law_8, d_part_of_rows, ir_part_of_rows, ix_pr0, ix_pr1, sl_side]
  rfl
end Bk
namespace Bk
open PySem PySem.Spec PyProof.Rows L2
theorem e_ll : inD (.str "left") (.tuple [.str "left", .str "right"]) = .ok true := by rfl
theorem e_rl : inD (.str "right") (.tuple [.str "left", .str "right"]) = .ok true := by rfl
theorem e_tl : inD (.str "top") (.tuple [.str "left", .str "right"]) = .ok false := by rfl
theorem e_bl : inD (.str "bottom") (.tuple [.str "left", .str "right"]) = .ok false := by rfl
theorem e_lt : inD (.str "left") (.tuple [.str "left", .str "top"]) = .ok true := by rfl
theorem e_rt : inD (.str "right") (.tuple [.str "left", .str "top"]) = .ok false := by rfl
theorem e_tt : inD (.str "top") (.tuple [.str "left", .str "top"]) = .ok true := by rfl
theorem e_bt : inD (.str "bottom") (.tuple [.str "left", .str "top"]) = .ok false := by rfl
theorem f_cc : isFnD "part_of_columns" (fnD "part_of_columns") = true := rfl
theorem f_cr : isFnD "part_of_columns" (fnD "part_of_rows") = false := rfl
theorem n_cr : ¬ (("part_of_columns" : Str) = "part_of_rows") := by decide
theorem f_rr : isFnD "part_of_rows" (fnD "part_of_rows") = true := rfl
abbrev outE : Rs D := .er "Refused" [("what", .str "line outside the print")]
section
variable {n m : Nat} {f b : Sd}
theorem cp_out_c (hf : Rc n m f) (hn : 1 ≤ n) {line : Int} (h : (m : Int) ≤ line) : d_cut_print [prD (f, b), .str "left", .int line] = outE ∧ d_cut_print [prD (f, b), .str "right", .int line] = outE := by
  obtain ⟨r, h1, h2⟩ := ix_side hf hn
  constructor
  · simp (implicitDefEqProofs := false) only [out_er, r_x, r_call, r_cv, r_ife, pick_c, isFn_fn, h_fld, h_var, h_non, h_bl, h_int, h_str, h_cmp, h_bo, h_nt, h_ife, h_ret, h_ifr, fld_1, cmpH_ss, cmpH_ii, par_2, par_3, f0_s, f0_i, eq_self, fl_all1, zip_1, Rs.toX_ok, Rs.toX_er, Rs.toX_st, Ot.catch_nx, Ot.catch_rt, Ot.catch_bk, Ot.catch_ct, Ot.catch_er, Ot.catch_st, Ot.then_er, Ot.turn_er, and_self, vl_v, ow_o, gt_zero, gt_succ, pt_zero, pt_succ, kil_nil, kil_cons, Rs.bind_ok, Rs.to_ok, Rs.calm_ok, Ot.then_nx, Ot.then_rt, Ot.then_bk, Ot.then_ct, Ot.turn_nx, Ot.turn_ct, Ot.turn_bk, Ot.turn_rt, chg, asInt_int, isOwn_v, isOwn_o, isOwn_none, g_nm, g_tp, g_n, g_c, List.map_cons, List.map_nil, List.length_cons, List.length_nil, List.cons_append, List.nil_append, List.replicate_succ, List.replicate_zero, Nat.reduceSub, Nat.reduceAdd, Nat.reduceLeDiff, Nat.le_refl, Nat.zero_le, Nat.sub_self, Nat.reduceEqDiff, if_true, if_false, ite_true, ite_false, Bool.false_eq_true, decide_true, decide_false, beq_self_eq_true, List.any_cons, List.any_nil, Bool.or_false, Bool.false_or, Bool.or_true, Bool.and_true, Bool.true_and, Bool.false_and, Bool.and_false, Bool.not_true, Bool.not_false, reduceIte, Int.reduceLT, Int.reduceLE, Int.reduceNeg, Int.reducePow, Int.reduceToNat, Int.reduceSub, Int.reduceAdd, Int.reduceMul, decide_eq_true_eq, Int.toNat_natCast, okR, run_eq, out_nx, out_rt, beqT, beqF, and_self, Bool.true_or, Bool.or_self, b_addi, b_adds, b_addl, b_addt, b_sub, b_mul, b_div, b_mod, b_pow, c_eq, c_ne, c_lt, c_ltt, k_mn, nd_n, nd_b, nd_i, nd_s, nd_l, nd_t, nd_0, nd_c, c_le, c_gt, c_ge, c_is0, c_isi, c_iss, c_isl, c_ist, c_isb, c_no0, c_noi, c_nos, c_nol, c_not, c_nob, c_in, c_ni, u_n, u_b, u_i, u_s, u_l, u_t, f_lenl, f_lent, f_lens, f_ll, f_lt, f_tl, f_tt, f_int, f_bool, f_str, f_max2, f_min2, f_max, f_min, f_sum, f_sumt, l_s, c_les, g_ai, z_ll, z_lt, z_tl, z_tt, min_ints, min_t, mx_ints, mx_t, s_l, s_t, l_l, l_t, a_l, e_l, j_l, j_t, m_x, isn_i, isn_b, isn_s, isn_l, isn_t, isn_n, evb1, evb2, evc0, evc1, andB1, andB2, fl_n, fl_b, fl_i, fl_s, fl_t, fb_0, fb_i, fb_b, fb_s, b_rep, asBool_bool, n_10, Nat.reduceLT, tx_s, eqD_int, eqD_str, eqD_bool, eqD_nil_int, n_10, Nat.reduceLT, n_10, Nat.reduceLT, n_10, Nat.reduceLT, n_10, Nat.reduceLT, n_10, Nat.reduceLT, n_10, Nat.reduceLT, q_ev0, q_ev1, q_ev2, q_ev3, q_ev4, q_ev5, q_ev6, q_ev7, q_ev8, q_ev9, q_ev10, q_ev11, q_ev12, q_ev13, q_ev14, q_ev15, q_ev16, q_ev17, q_ev18, q_ev19, q_ev20, q_ev21, q_ev22, q_ev23, q_ev24, q_ev25, q_ev26, q_ev27, q_ev28, q_ev29, q_ev30, q_ev31, q_ev32, q_ev33, q_ev34, q_ev35, q_ev36, q_evs0, q_evs1, q_evo0, q_evo1, q_evw0, q_evw1, q_evw2, q_evw3, q_evw4, q_evw5, q_evw6, q_evw7, q_ex0, q_ex1, q_ex2, q_ex3, q_ex4, q_ex5, q_ex6, q_ex7, q_ex8, q_ex9, q_ex10, q_ex11, q_ex12, q_ex13, q_ex14, q_ex15, q_ex16, q_ex17, q_ex18, q_ex19, q_ex20, q_ex21, q_ex22, q_ex23, q_ex24, q_ex25, q_exs0, q_exs1, q_exs2, q_exs3, n_10, Nat.reduceLT, fn_rotated_0, fn_turn_print_0, fn_cut_print_0, fn_cut_print_1, gn_check_size_0, fn_join_prints_0, fn_join_prints_1, fn_work_and_turn_0, fn_work_and_turn_1, fn_work_and_tumble_0, fn_work_and_tumble_1, fn_printing_method_0, fn__law_same_0, fn__law_print_0, fn__law_print_1, fn__law_told_0, fn__law_told_1, fn__law_wider_0, fn_law_0, fn_law_1, fn_law_2, fn_law_3, fn_law_4, fn_law_5, fn_law_6, fn_law_7, fn_law_8, d_cut_print, ir_cut_print, e_ll, ix_pr0, h1, len_row, h2, h]
  · simp (implicitDefEqProofs := false) only [out_er, r_x, r_call, r_cv, r_ife, pick_c, isFn_fn, h_fld, h_var, h_non, h_bl, h_int, h_str, h_cmp, h_bo, h_nt, h_ife, h_ret, h_ifr, fld_1, cmpH_ss, cmpH_ii, par_2, par_3, f0_s, f0_i, eq_self, fl_all1, zip_1, Rs.toX_ok, Rs.toX_er, Rs.toX_st, Ot.catch_nx, Ot.catch_rt, Ot.catch_bk, Ot.catch_ct, Ot.catch_er, Ot.catch_st, Ot.then_er, Ot.turn_er, and_self, vl_v, ow_o, gt_zero, gt_succ, pt_zero, pt_succ, kil_nil, kil_cons, Rs.bind_ok, Rs.to_ok, Rs.calm_ok, Ot.then_nx, Ot.then_rt, Ot.then_bk, Ot.then_ct, Ot.turn_nx, Ot.turn_ct, Ot.turn_bk, Ot.turn_rt, chg, asInt_int, isOwn_v, isOwn_o, isOwn_none, g_nm, g_tp, g_n, g_c, List.map_cons, List.map_nil, List.length_cons, List.length_nil, List.cons_append, List.nil_append, List.replicate_succ, List.replicate_zero, Nat.reduceSub, Nat.reduceAdd, Nat.reduceLeDiff, Nat.le_refl, Nat.zero_le, Nat.sub_self, Nat.reduceEqDiff, if_true, if_false, ite_true, ite_false, Bool.false_eq_true, decide_true, decide_false, beq_self_eq_true, List.any_cons, List.any_nil, Bool.or_false, Bool.false_or, Bool.or_true, Bool.and_true, Bool.true_and, Bool.false_and, Bool.and_false, Bool.not_true, Bool.not_false, reduceIte, Int.reduceLT, Int.reduceLE, Int.reduceNeg, Int.reducePow, Int.reduceToNat, Int.reduceSub, Int.reduceAdd, Int.reduceMul, decide_eq_true_eq, Int.toNat_natCast, okR, run_eq, out_nx, out_rt, beqT, beqF, and_self, Bool.true_or, Bool.or_self, b_addi, b_adds, b_addl, b_addt, b_sub, b_mul, b_div, b_mod, b_pow, c_eq, c_ne, c_lt, c_ltt, k_mn, nd_n, nd_b, nd_i, nd_s, nd_l, nd_t, nd_0, nd_c, c_le, c_gt, c_ge, c_is0, c_isi, c_iss, c_isl, c_ist, c_isb, c_no0, c_noi, c_nos, c_nol, c_not, c_nob, c_in, c_ni, u_n, u_b, u_i, u_s, u_l, u_t, f_lenl, f_lent, f_lens, f_ll, f_lt, f_tl, f_tt, f_int, f_bool, f_str, f_max2, f_min2, f_max, f_min, f_sum, f_sumt, l_s, c_les, g_ai, z_ll, z_lt, z_tl, z_tt, min_ints, min_t, mx_ints, mx_t, s_l, s_t, l_l, l_t, a_l, e_l, j_l, j_t, m_x, isn_i, isn_b, isn_s, isn_l, isn_t, isn_n, evb1, evb2, evc0, evc1, andB1, andB2, fl_n, fl_b, fl_i, fl_s, fl_t, fb_0, fb_i, fb_b, fb_s, b_rep, asBool_bool, n_10, Nat.reduceLT, tx_s, eqD_int, eqD_str, eqD_bool, eqD_nil_int, n_10, Nat.reduceLT, n_10, Nat.reduceLT, n_10, Nat.reduceLT, n_10, Nat.reduceLT, n_10, Nat.reduceLT, n_10, Nat.reduceLT, q_ev0, q_ev1, q_ev2, q_ev3, q_ev4, q_ev5, q_ev6, q_ev7, q_ev8, q_ev9, q_ev10, q_ev11, q_ev12, q_ev13, q_ev14, q_ev15, q_ev16, q_ev17, q_ev18, q_ev19, q_ev20, q_ev21, q_ev22, q_ev23, q_ev24, q_ev25, q_ev26, q_ev27, q_ev28, q_ev29, q_ev30, q_ev31, q_ev32, q_ev33, q_ev34, q_ev35, q_ev36, q_evs0, q_evs1, q_evo0, q_evo1, q_evw0, q_evw1, q_evw2, q_evw3, q_evw4, q_evw5, q_evw6, q_evw7, q_ex0, q_ex1, q_ex2, q_ex3, q_ex4, q_ex5, q_ex6, q_ex7, q_ex8, q_ex9, q_ex10, q_ex11, q_ex12, q_ex13, q_ex14, q_ex15, q_ex16, q_ex17, q_ex18, q_ex19, q_ex20, q_ex21, q_ex22, q_ex23, q_ex24, q_ex25, q_exs0, q_exs1, q_exs2, q_exs3, n_10, Nat.reduceLT, fn_rotated_0, fn_turn_print_0, fn_cut_print_0, fn_cut_print_1, gn_check_size_0, fn_join_prints_0, fn_join_prints_1, fn_work_and_turn_0, fn_work_and_turn_1, fn_work_and_tumble_0, fn_work_and_tumble_1, fn_printing_method_0, fn__law_same_0, fn__law_print_0, fn__law_print_1, fn__law_told_0, fn__law_told_1, fn__law_wider_0, fn_law_0, fn_law_1, fn_law_2, fn_law_3, fn_law_4, fn_law_5, fn_law_6, fn_law_7, fn_law_8, d_cut_print, ir_cut_print, e_rl, ix_pr0, h1, len_row, h2, h]
theorem cp_out_r (hf : Rc n m f) {line : Int} (h : (n : Int) ≤ line) : d_cut_print [prD (f, b), .str "top", .int line] = outE ∧ d_cut_print [prD (f, b), .str "bottom", .int line] = outE := by
  have h1 := hf.1
  constructor
  · simp (implicitDefEqProofs := false) only [out_er, r_x, r_call, r_cv, r_ife, pick_c, isFn_fn, h_fld, h_var, h_non, h_bl, h_int, h_str, h_cmp, h_bo, h_nt, h_ife, h_ret, h_ifr, fld_1, cmpH_ss, cmpH_ii, par_2, par_3, f0_s, f0_i, eq_self, fl_all1, zip_1, Rs.toX_ok, Rs.toX_er, Rs.toX_st, Ot.catch_nx, Ot.catch_rt, Ot.catch_bk, Ot.catch_ct, Ot.catch_er, Ot.catch_st, Ot.then_er, Ot.turn_er, and_self, vl_v, ow_o, gt_zero, gt_succ, pt_zero, pt_succ, kil_nil, kil_cons, Rs.bind_ok, Rs.to_ok, Rs.calm_ok, Ot.then_nx, Ot.then_rt, Ot.then_bk, Ot.then_ct, Ot.turn_nx, Ot.turn_ct, Ot.turn_bk, Ot.turn_rt, chg, asInt_int, isOwn_v, isOwn_o, isOwn_none, g_nm, g_tp, g_n, g_c, List.map_cons, List.map_nil, List.length_cons, List.length_nil, List.cons_append, List.nil_append, List.replicate_succ, List.replicate_zero, Nat.reduceSub, Nat.reduceAdd, Nat.reduceLeDiff, Nat.le_refl, Nat.zero_le, Nat.sub_self, Nat.reduceEqDiff, if_true, if_false, ite_true, ite_false, Bool.false_eq_true, decide_true, decide_false, beq_self_eq_true, List.any_cons, List.any_nil, Bool.or_false, Bool.false_or, Bool.or_true, Bool.and_true, Bool.true_and, Bool.false_and, Bool.and_false, Bool.not_true, Bool.not_false, reduceIte, Int.reduceLT, Int.reduceLE, Int.reduceNeg, Int.reducePow, Int.reduceToNat, Int.reduceSub, Int.reduceAdd, Int.reduceMul, decide_eq_true_eq, Int.toNat_natCast, okR, run_eq, out_nx, out_rt, beqT, beqF, and_self, Bool.true_or, Bool.or_self, b_addi, b_adds, b_addl, b_addt, b_sub, b_mul, b_div, b_mod, b_pow, c_eq, c_ne, c_lt, c_ltt, k_mn, nd_n, nd_b, nd_i, nd_s, nd_l, nd_t, nd_0, nd_c, c_le, c_gt, c_ge, c_is0, c_isi, c_iss, c_isl, c_ist, c_isb, c_no0, c_noi, c_nos, c_nol, c_not, c_nob, c_in, c_ni, u_n, u_b, u_i, u_s, u_l, u_t, f_lenl, f_lent, f_lens, f_ll, f_lt, f_tl, f_tt, f_int, f_bool, f_str, f_max2, f_min2, f_max, f_min, f_sum, f_sumt, l_s, c_les, g_ai, z_ll, z_lt, z_tl, z_tt, min_ints, min_t, mx_ints, mx_t, s_l, s_t, l_l, l_t, a_l, e_l, j_l, j_t, m_x, isn_i, isn_b, isn_s, isn_l, isn_t, isn_n, evb1, evb2, evc0, evc1, andB1, andB2, fl_n, fl_b, fl_i, fl_s, fl_t, fb_0, fb_i, fb_b, fb_s, b_rep, asBool_bool, n_10, Nat.reduceLT, tx_s, eqD_int, eqD_str, eqD_bool, eqD_nil_int, n_10, Nat.reduceLT, n_10, Nat.reduceLT, n_10, Nat.reduceLT, n_10, Nat.reduceLT, n_10, Nat.reduceLT, n_10, Nat.reduceLT, q_ev0, q_ev1, q_ev2, q_ev3, q_ev4, q_ev5, q_ev6, q_ev7, q_ev8, q_ev9, q_ev10, q_ev11, q_ev12, q_ev13, q_ev14, q_ev15, q_ev16, q_ev17, q_ev18, q_ev19, q_ev20, q_ev21, q_ev22, q_ev23, q_ev24, q_ev25, q_ev26, q_ev27, q_ev28, q_ev29, q_ev30, q_ev31, q_ev32, q_ev33, q_ev34, q_ev35, q_ev36, q_evs0, q_evs1, q_evo0, q_evo1, q_evw0, q_evw1, q_evw2, q_evw3, q_evw4, q_evw5, q_evw6, q_evw7, q_ex0, q_ex1, q_ex2, q_ex3, q_ex4, q_ex5, q_ex6, q_ex7, q_ex8, q_ex9, q_ex10, q_ex11, q_ex12, q_ex13, q_ex14, q_ex15, q_ex16, q_ex17, q_ex18, q_ex19, q_ex20, q_ex21, q_ex22, q_ex23, q_ex24, q_ex25, q_exs0, q_exs1, q_exs2, q_exs3, n_10, Nat.reduceLT, fn_rotated_0, fn_turn_print_0, fn_cut_print_0, fn_cut_print_1, gn_check_size_0, fn_join_prints_0, fn_join_prints_1, fn_work_and_turn_0, fn_work_and_turn_1, fn_work_and_tumble_0, fn_work_and_tumble_1, fn_printing_method_0, fn__law_same_0, fn__law_print_0, fn__law_print_1, fn__law_told_0, fn__law_told_1, fn__law_wider_0, fn_law_0, fn_law_1, fn_law_2, fn_law_3, fn_law_4, fn_law_5, fn_law_6, fn_law_7, fn_law_8, d_cut_print, ir_cut_print, e_tl, ix_pr0, len_side, h1, h]
  · simp (implicitDefEqProofs := false) only [out_er, r_x, r_call, r_cv, r_ife, pick_c, isFn_fn, h_fld, h_var, h_non, h_bl, h_int, h_str, h_cmp, h_bo, h_nt, h_ife, h_ret, h_ifr, fld_1, cmpH_ss, cmpH_ii, par_2, par_3, f0_s, f0_i, eq_self, fl_all1, zip_1, Rs.toX_ok, Rs.toX_er, Rs.toX_st, Ot.catch_nx, Ot.catch_rt, Ot.catch_bk, Ot.catch_ct, Ot.catch_er, Ot.catch_st, Ot.then_er, Ot.turn_er, and_self, vl_v, ow_o, gt_zero, gt_succ, pt_zero, pt_succ, kil_nil, kil_cons, Rs.bind_ok, Rs.to_ok, Rs.calm_ok, Ot.then_nx, Ot.then_rt, Ot.then_bk, Ot.then_ct, Ot.turn_nx, Ot.turn_ct, Ot.turn_bk, Ot.turn_rt, chg, asInt_int, isOwn_v, isOwn_o, isOwn_none, g_nm, g_tp, g_n, g_c, List.map_cons, List.map_nil, List.length_cons, List.length_nil, List.cons_append, List.nil_append, List.replicate_succ, List.replicate_zero, Nat.reduceSub, Nat.reduceAdd, Nat.reduceLeDiff, Nat.le_refl, Nat.zero_le, Nat.sub_self, Nat.reduceEqDiff, if_true, if_false, ite_true, ite_false, Bool.false_eq_true, decide_true, decide_false, beq_self_eq_true, List.any_cons, List.any_nil, Bool.or_false, Bool.false_or, Bool.or_true, Bool.and_true, Bool.true_and, Bool.false_and, Bool.and_false, Bool.not_true, Bool.not_false, reduceIte, Int.reduceLT, Int.reduceLE, Int.reduceNeg, Int.reducePow, Int.reduceToNat, Int.reduceSub, Int.reduceAdd, Int.reduceMul, decide_eq_true_eq, Int.toNat_natCast, okR, run_eq, out_nx, out_rt, beqT, beqF, and_self, Bool.true_or, Bool.or_self, b_addi, b_adds, b_addl, b_addt, b_sub, b_mul, b_div, b_mod, b_pow, c_eq, c_ne, c_lt, c_ltt, k_mn, nd_n, nd_b, nd_i, nd_s, nd_l, nd_t, nd_0, nd_c, c_le, c_gt, c_ge, c_is0, c_isi, c_iss, c_isl, c_ist, c_isb, c_no0, c_noi, c_nos, c_nol, c_not, c_nob, c_in, c_ni, u_n, u_b, u_i, u_s, u_l, u_t, f_lenl, f_lent, f_lens, f_ll, f_lt, f_tl, f_tt, f_int, f_bool, f_str, f_max2, f_min2, f_max, f_min, f_sum, f_sumt, l_s, c_les, g_ai, z_ll, z_lt, z_tl, z_tt, min_ints, min_t, mx_ints, mx_t, s_l, s_t, l_l, l_t, a_l, e_l, j_l, j_t, m_x, isn_i, isn_b, isn_s, isn_l, isn_t, isn_n, evb1, evb2, evc0, evc1, andB1, andB2, fl_n, fl_b, fl_i, fl_s, fl_t, fb_0, fb_i, fb_b, fb_s, b_rep, asBool_bool, n_10, Nat.reduceLT, tx_s, eqD_int, eqD_str, eqD_bool, eqD_nil_int, n_10, Nat.reduceLT, n_10, Nat.reduceLT, n_10, Nat.reduceLT, n_10, Nat.reduceLT, n_10, Nat.reduceLT, n_10, Nat.reduceLT, q_ev0, q_ev1, q_ev2, q_ev3, q_ev4, q_ev5, q_ev6, q_ev7, q_ev8, q_ev9, q_ev10, q_ev11, q_ev12, q_ev13, q_ev14, q_ev15, q_ev16, q_ev17, q_ev18, q_ev19, q_ev20, q_ev21, q_ev22, q_ev23, q_ev24, q_ev25, q_ev26, q_ev27, q_ev28, q_ev29, q_ev30, q_ev31, q_ev32, q_ev33, q_ev34, q_ev35, q_ev36, q_evs0, q_evs1, q_evo0, q_evo1, q_evw0, q_evw1, q_evw2, q_evw3, q_evw4, q_evw5, q_evw6, q_evw7, q_ex0, q_ex1, q_ex2, q_ex3, q_ex4, q_ex5, q_ex6, q_ex7, q_ex8, q_ex9, q_ex10, q_ex11, q_ex12, q_ex13, q_ex14, q_ex15, q_ex16, q_ex17, q_ex18, q_ex19, q_ex20, q_ex21, q_ex22, q_ex23, q_ex24, q_ex25, q_exs0, q_exs1, q_exs2, q_exs3, n_10, Nat.reduceLT, fn_rotated_0, fn_turn_print_0, fn_cut_print_0, fn_cut_print_1, gn_check_size_0, fn_join_prints_0, fn_join_prints_1, fn_work_and_turn_0, fn_work_and_turn_1, fn_work_and_tumble_0, fn_work_and_tumble_1, fn_printing_method_0, fn__law_same_0, fn__law_print_0, fn__law_print_1, fn__law_told_0, fn__law_told_1, fn__law_wider_0, fn_law_0, fn_law_1, fn_law_2, fn_law_3, fn_law_4, fn_law_5, fn_law_6, fn_law_7, fn_law_8, d_cut_print, ir_cut_print, e_bl, ix_pr0, len_side, h1, h]
theorem cp_left (hf : Rc n m f) (hn : 1 ≤ n) {line : Int} (h : ¬ (m : Int) ≤ line) : d_cut_print [prD (f, b), .str "left", .int line] =
    .ok (.tuple [prD (cc f (some line) (some m), cc b (some 0) (some (m - line))), prD (cc f (some 0) (some line), cc b (some (m - line)) (some m))]) := by
  obtain ⟨r, h1, h2⟩ := ix_side hf hn
  have p1 := poc (b := b) hf hn line m
  have p2 := poc (b := b) hf hn 0 line
  rw [Int.sub_self] at p1
  rw [Int.sub_zero] at p2
  simp (implicitDefEqProofs := false) only [out_er, r_x, r_call, r_cv, r_ife, pick_c, isFn_fn, h_fld, h_var, h_non, h_bl, h_int, h_str, h_cmp, h_bo, h_nt, h_ife, h_ret, h_ifr, fld_1, cmpH_ss, cmpH_ii, par_2, par_3, f0_s, f0_i, eq_self, fl_all1, zip_1, Rs.toX_ok, Rs.toX_er, Rs.toX_st, Ot.catch_nx, Ot.catch_rt, Ot.catch_bk, Ot.catch_ct, Ot.catch_er, Ot.catch_st, Ot.then_er, Ot.turn_er, and_self, vl_v, ow_o, gt_zero, gt_succ, pt_zero, pt_succ, kil_nil, kil_cons, Rs.bind_ok, Rs.to_ok, Rs.calm_ok, Ot.then_nx, Ot.then_rt, Ot.then_bk, Ot.then_ct, Ot.turn_nx, Ot.turn_ct, Ot.turn_bk, Ot.turn_rt, chg, asInt_int, isOwn_v, isOwn_o, isOwn_none, g_nm, g_tp, g_n, g_c, List.map_cons, List.map_nil, List.length_cons, List.length_nil, List.cons_append, List.nil_append, List.replicate_succ, List.replicate_zero, Nat.reduceSub, Nat.reduceAdd, Nat.reduceLeDiff, Nat.le_refl, Nat.zero_le, Nat.sub_self, Nat.reduceEqDiff, if_true, if_false, ite_true, ite_false, Bool.false_eq_true, decide_true, decide_false, beq_self_eq_true, List.any_cons, List.any_nil, Bool.or_false, Bool.false_or, Bool.or_true, Bool.and_true, Bool.true_and, Bool.false_and, Bool.and_false, Bool.not_true, Bool.not_false, reduceIte, Int.reduceLT, Int.reduceLE, Int.reduceNeg, Int.reducePow, Int.reduceToNat, Int.reduceSub, Int.reduceAdd, Int.reduceMul, decide_eq_true_eq, Int.toNat_natCast, okR, run_eq, out_nx, out_rt, beqT, beqF, and_self, Bool.true_or, Bool.or_self, b_addi, b_adds, b_addl, b_addt, b_sub, b_mul, b_div, b_mod, b_pow, c_eq, c_ne, c_lt, c_ltt, k_mn, nd_n, nd_b, nd_i, nd_s, nd_l, nd_t, nd_0, nd_c, c_le, c_gt, c_ge, c_is0, c_isi, c_iss, c_isl, c_ist, c_isb, c_no0, c_noi, c_nos, c_nol, c_not, c_nob, c_in, c_ni, u_n, u_b, u_i, u_s, u_l, u_t, f_lenl, f_lent, f_lens, f_ll, f_lt, f_tl, f_tt, f_int, f_bool, f_str, f_max2, f_min2, f_max, f_min, f_sum, f_sumt, l_s, c_les, g_ai, z_ll, z_lt, z_tl, z_tt, min_ints, min_t, mx_ints, mx_t, s_l, s_t, l_l, l_t, a_l, e_l, j_l, j_t, m_x, isn_i, isn_b, isn_s, isn_l, isn_t, isn_n, evb1, evb2, evc0, evc1, andB1, andB2, fl_n, fl_b, fl_i, fl_s, fl_t, fb_0, fb_i, fb_b, fb_s, b_rep, asBool_bool, n_10, Nat.reduceLT, tx_s, eqD_int, eqD_str, eqD_bool, eqD_nil_int, n_10, Nat.reduceLT, n_10, Nat.reduceLT, n_10, Nat.reduceLT, n_10, Nat.reduceLT, n_10, Nat.reduceLT, n_10, Nat.reduceLT, q_ev0, q_ev1, q_ev2, q_ev3, q_ev4, q_ev5, q_ev6, q_ev7, q_ev8, q_ev9, q_ev10, q_ev11, q_ev12, q_ev13, q_ev14, q_ev15, q_ev16, q_ev17, q_ev18, q_ev19, q_ev20, q_ev21, q_ev22, q_ev23, q_ev24, q_ev25, q_ev26, q_ev27, q_ev28, q_ev29, q_ev30, q_ev31, q_ev32, q_ev33, q_ev34, q_ev35, q_ev36, q_evs0, q_evs1, q_evo0, q_evo1, q_evw0, q_evw1, q_evw2, q_evw3, q_evw4, q_evw5, q_evw6, q_evw7, q_ex0, q_ex1, q_ex2, q_ex3, q_ex4, q_ex5, q_ex6, q_ex7, q_ex8, q_ex9, q_ex10, q_ex11, q_ex12, q_ex13, q_ex14, q_ex15, q_ex16, q_ex17, q_ex18, q_ex19, q_ex20, q_ex21, q_ex22, q_ex23, q_ex24, q_ex25, q_exs0, q_exs1, q_exs2, q_exs3, n_10, Nat.reduceLT, fn_rotated_0, fn_turn_print_0, fn_cut_print_0, fn_cut_print_1, gn_check_size_0, fn_join_prints_0, fn_join_prints_1, fn_work_and_turn_0, fn_work_and_turn_1, fn_work_and_tumble_0, fn_work_and_tumble_1, fn_printing_method_0, fn__law_same_0, fn__law_print_0, fn__law_print_1, fn__law_told_0, fn__law_told_1, fn__law_wider_0, fn_law_0, fn_law_1, fn_law_2, fn_law_3, fn_law_4, fn_law_5, fn_law_6, fn_law_7, fn_law_8, d_cut_print, ir_cut_print, e_ll, e_lt, ix_pr0, h1, len_row, h2, h, f_cc, p1, p2]
theorem cp_right (hf : Rc n m f) (hn : 1 ≤ n) {line : Int} (h : ¬ (m : Int) ≤ line) : d_cut_print [prD (f, b), .str "right", .int line] =
    .ok (.tuple [prD (cc f (some 0) (some (m - line)), cc b (some line) (some m)), prD (cc f (some (m - line)) (some m), cc b (some 0) (some line))]) := by
  obtain ⟨r, h1, h2⟩ := ix_side hf hn
  have p1 := poc (b := b) hf hn 0 ((m : Int) - line)
  have p2 := poc (b := b) hf hn ((m : Int) - line) m
  have e : (m : Int) - (m - line) = line := by omega
  rw [Int.sub_zero, e] at p1
  rw [Int.sub_self, e] at p2
  simp (implicitDefEqProofs := false) only [out_er, r_x, r_call, r_cv, r_ife, pick_c, isFn_fn, h_fld, h_var, h_non, h_bl, h_int, h_str, h_cmp, h_bo, h_nt, h_ife, h_ret, h_ifr, fld_1, cmpH_ss, cmpH_ii, par_2, par_3, f0_s, f0_i, eq_self, fl_all1, zip_1, Rs.toX_ok, Rs.toX_er, Rs.toX_st, Ot.catch_nx, Ot.catch_rt, Ot.catch_bk, Ot.catch_ct, Ot.catch_er, Ot.catch_st, Ot.then_er, Ot.turn_er, and_self, vl_v, ow_o, gt_zero, gt_succ, pt_zero, pt_succ, kil_nil, kil_cons, Rs.bind_ok, Rs.to_ok, Rs.calm_ok, Ot.then_nx, Ot.then_rt, Ot.then_bk, Ot.then_ct, Ot.turn_nx, Ot.turn_ct, Ot.turn_bk, Ot.turn_rt, chg, asInt_int, isOwn_v, isOwn_o, isOwn_none, g_nm, g_tp, g_n, g_c, List.map_cons, List.map_nil, List.length_cons, List.length_nil, List.cons_append, List.nil_append, List.replicate_succ, List.replicate_zero, Nat.reduceSub, Nat.reduceAdd, Nat.reduceLeDiff, Nat.le_refl, Nat.zero_le, Nat.sub_self, Nat.reduceEqDiff, if_true, if_false, ite_true, ite_false, Bool.false_eq_true, decide_true, decide_false, beq_self_eq_true, List.any_cons, List.any_nil, Bool.or_false, Bool.false_or, Bool.or_true, Bool.and_true, Bool.true_and, Bool.false_and, Bool.and_false, Bool.not_true, Bool.not_false, reduceIte, Int.reduceLT, Int.reduceLE, Int.reduceNeg, Int.reducePow, Int.reduceToNat, Int.reduceSub, Int.reduceAdd, Int.reduceMul, decide_eq_true_eq, Int.toNat_natCast, okR, run_eq, out_nx, out_rt, beqT, beqF, and_self, Bool.true_or, Bool.or_self, b_addi, b_adds, b_addl, b_addt, b_sub, b_mul, b_div, b_mod, b_pow, c_eq, c_ne, c_lt, c_ltt, k_mn, nd_n, nd_b, nd_i, nd_s, nd_l, nd_t, nd_0, nd_c, c_le, c_gt, c_ge, c_is0, c_isi, c_iss, c_isl, c_ist, c_isb, c_no0, c_noi, c_nos, c_nol, c_not, c_nob, c_in, c_ni, u_n, u_b, u_i, u_s, u_l, u_t, f_lenl, f_lent, f_lens, f_ll, f_lt, f_tl, f_tt, f_int, f_bool, f_str, f_max2, f_min2, f_max, f_min, f_sum, f_sumt, l_s, c_les, g_ai, z_ll, z_lt, z_tl, z_tt, min_ints, min_t, mx_ints, mx_t, s_l, s_t, l_l, l_t, a_l, e_l, j_l, j_t, m_x, isn_i, isn_b, isn_s, isn_l, isn_t, isn_n, evb1, evb2, evc0, evc1, andB1, andB2, fl_n, fl_b, fl_i, fl_s, fl_t, fb_0, fb_i, fb_b, fb_s, b_rep, asBool_bool, n_10, Nat.reduceLT, tx_s, eqD_int, eqD_str, eqD_bool, eqD_nil_int, n_10, Nat.reduceLT, n_10, Nat.reduceLT, n_10, Nat.reduceLT, n_10, Nat.reduceLT, n_10, Nat.reduceLT, n_10, Nat.reduceLT, q_ev0, q_ev1, q_ev2, q_ev3, q_ev4, q_ev5, q_ev6, q_ev7, q_ev8, q_ev9, q_ev10, q_ev11, q_ev12, q_ev13, q_ev14, q_ev15, q_ev16, q_ev17, q_ev18, q_ev19, q_ev20, q_ev21, q_ev22, q_ev23, q_ev24, q_ev25, q_ev26, q_ev27, q_ev28, q_ev29, q_ev30, q_ev31, q_ev32, q_ev33, q_ev34, q_ev35, q_ev36, q_evs0, q_evs1, q_evo0, q_evo1, q_evw0, q_evw1, q_evw2, q_evw3, q_evw4, q_evw5, q_evw6, q_evw7, q_ex0, q_ex1, q_ex2, q_ex3, q_ex4, q_ex5, q_ex6, q_ex7, q_ex8, q_ex9, q_ex10, q_ex11, q_ex12, q_ex13, q_ex14, q_ex15, q_ex16, q_ex17, q_ex18, q_ex19, q_ex20, q_ex21, q_ex22, q_ex23, q_ex24, q_ex25, q_exs0, q_exs1, q_exs2, q_exs3, n_10, Nat.reduceLT, fn_rotated_0, fn_turn_print_0, fn_cut_print_0, fn_cut_print_1, gn_check_size_0, fn_join_prints_0, fn_join_prints_1, fn_work_and_turn_0, fn_work_and_turn_1, fn_work_and_tumble_0, fn_work_and_tumble_1, fn_printing_method_0, fn__law_same_0, fn__law_print_0, fn__law_print_1, fn__law_told_0, fn__law_told_1, fn__law_wider_0, fn_law_0, fn_law_1, fn_law_2, fn_law_3, fn_law_4, fn_law_5, fn_law_6, fn_law_7, fn_law_8, d_cut_print, ir_cut_print, e_rl, e_rt, ix_pr0, h1, len_row, h2, h, f_cc, p1, p2]
theorem cp_top (hf : Rc n m f) {line : Int} (h : ¬ (n : Int) ≤ line) : d_cut_print [prD (f, b), .str "top", .int line] =
    .ok (.tuple [prD (cut f (some line) (some n), cut b (some line) (some n)), prD (cut f (some 0) (some line), cut b (some 0) (some line))]) := by
  have h1 := hf.1
  simp (implicitDefEqProofs := false) only [out_er, r_x, r_call, r_cv, r_ife, pick_c, isFn_fn, h_fld, h_var, h_non, h_bl, h_int, h_str, h_cmp, h_bo, h_nt, h_ife, h_ret, h_ifr, fld_1, cmpH_ss, cmpH_ii, par_2, par_3, f0_s, f0_i, eq_self, fl_all1, zip_1, Rs.toX_ok, Rs.toX_er, Rs.toX_st, Ot.catch_nx, Ot.catch_rt, Ot.catch_bk, Ot.catch_ct, Ot.catch_er, Ot.catch_st, Ot.then_er, Ot.turn_er, and_self, vl_v, ow_o, gt_zero, gt_succ, pt_zero, pt_succ, kil_nil, kil_cons, Rs.bind_ok, Rs.to_ok, Rs.calm_ok, Ot.then_nx, Ot.then_rt, Ot.then_bk, Ot.then_ct, Ot.turn_nx, Ot.turn_ct, Ot.turn_bk, Ot.turn_rt, chg, asInt_int, isOwn_v, isOwn_o, isOwn_none, g_nm, g_tp, g_n, g_c, List.map_cons, List.map_nil, List.length_cons, List.length_nil, List.cons_append, List.nil_append, List.replicate_succ, List.replicate_zero, Nat.reduceSub, Nat.reduceAdd, Nat.reduceLeDiff, Nat.le_refl, Nat.zero_le, Nat.sub_self, Nat.reduceEqDiff, if_true, if_false, ite_true, ite_false, Bool.false_eq_true, decide_true, decide_false, beq_self_eq_true, List.any_cons, List.any_nil, Bool.or_false, Bool.false_or, Bool.or_true, Bool.and_true, Bool.true_and, Bool.false_and, Bool.and_false, Bool.not_true, Bool.not_false, reduceIte, Int.reduceLT, Int.reduceLE, Int.reduceNeg, Int.reducePow, Int.reduceToNat, Int.reduceSub, Int.reduceAdd, Int.reduceMul, decide_eq_true_eq, Int.toNat_natCast, okR, run_eq, out_nx, out_rt, beqT, beqF, and_self, Bool.true_or, Bool.or_self, b_addi, b_adds, b_addl, b_addt, b_sub, b_mul, b_div, b_mod, b_pow, c_eq, c_ne, c_lt, c_ltt, k_mn, nd_n, nd_b, nd_i, nd_s, nd_l, nd_t, nd_0, nd_c, c_le, c_gt, c_ge, c_is0, c_isi, c_iss, c_isl, c_ist, c_isb, c_no0, c_noi, c_nos, c_nol, c_not, c_nob, c_in, c_ni, u_n, u_b, u_i, u_s, u_l, u_t, f_lenl, f_lent, f_lens, f_ll, f_lt, f_tl, f_tt, f_int, f_bool, f_str, f_max2, f_min2, f_max, f_min, f_sum, f_sumt, l_s, c_les, g_ai, z_ll, z_lt, z_tl, z_tt, min_ints, min_t, mx_ints, mx_t, s_l, s_t, l_l, l_t, a_l, e_l, j_l, j_t, m_x, isn_i, isn_b, isn_s, isn_l, isn_t, isn_n, evb1, evb2, evc0, evc1, andB1, andB2, fl_n, fl_b, fl_i, fl_s, fl_t, fb_0, fb_i, fb_b, fb_s, b_rep, asBool_bool, n_10, Nat.reduceLT, tx_s, eqD_int, eqD_str, eqD_bool, eqD_nil_int, n_10, Nat.reduceLT, n_10, Nat.reduceLT, n_10, Nat.reduceLT, n_10, Nat.reduceLT, n_10, Nat.reduceLT, n_10, Nat.reduceLT, q_ev0, q_ev1, q_ev2, q_ev3, q_ev4, q_ev5, q_ev6, q_ev7, q_ev8, q_ev9, q_ev10, q_ev11, q_ev12, q_ev13, q_ev14, q_ev15, q_ev16, q_ev17, q_ev18, q_ev19, q_ev20, q_ev21, q_ev22, q_ev23, q_ev24, q_ev25, q_ev26, q_ev27, q_ev28, q_ev29, q_ev30, q_ev31, q_ev32, q_ev33, q_ev34, q_ev35, q_ev36, q_evs0, q_evs1, q_evo0, q_evo1, q_evw0, q_evw1, q_evw2, q_evw3, q_evw4, q_evw5, q_evw6, q_evw7, q_ex0, q_ex1, q_ex2, q_ex3, q_ex4, q_ex5, q_ex6, q_ex7, q_ex8, q_ex9, q_ex10, q_ex11, q_ex12, q_ex13, q_ex14, q_ex15, q_ex16, q_ex17, q_ex18, q_ex19, q_ex20, q_ex21, q_ex22, q_ex23, q_ex24, q_ex25, q_exs0, q_exs1, q_exs2, q_exs3, n_10, Nat.reduceLT, fn_rotated_0, fn_turn_print_0, fn_cut_print_0, fn_cut_print_1, gn_check_size_0, fn_join_prints_0, fn_join_prints_1, fn_work_and_turn_0, fn_work_and_turn_1, fn_work_and_tumble_0, fn_work_and_tumble_1, fn_printing_method_0, fn__law_same_0, fn__law_print_0, fn__law_print_1, fn__law_told_0, fn__law_told_1, fn__law_wider_0, fn_law_0, fn_law_1, fn_law_2, fn_law_3, fn_law_4, fn_law_5, fn_law_6, fn_law_7, fn_law_8, d_cut_print, ir_cut_print, e_tl, e_tt, ix_pr0, len_side, h1, h, n_cr, f_rr, por]
theorem cp_bottom (hf : Rc n m f) {line : Int} (h : ¬ (n : Int) ≤ line) : d_cut_print [prD (f, b), .str "bottom", .int line] =
    .ok (.tuple [prD (cut f (some 0) (some (n - line)), cut b (some 0) (some (n - line))), prD (cut f (some (n - line)) (some n), cut b (some (n - line)) (some n))]) := by
  have h1 := hf.1
  simp (implicitDefEqProofs := false) only [out_er, r_x, r_call, r_cv, r_ife, pick_c, isFn_fn, h_fld, h_var, h_non, h_bl, h_int, h_str, h_cmp, h_bo, h_nt, h_ife, h_ret, h_ifr, fld_1, cmpH_ss, cmpH_ii, par_2, par_3, f0_s, f0_i, eq_self, fl_all1, zip_1, Rs.toX_ok, Rs.toX_er, Rs.toX_st, Ot.catch_nx, Ot.catch_rt, Ot.catch_bk, Ot.catch_ct, Ot.catch_er, Ot.catch_st, Ot.then_er, Ot.turn_er, and_self, vl_v, ow_o, gt_zero, gt_succ, pt_zero, pt_succ, kil_nil, kil_cons, Rs.bind_ok, Rs.to_ok, Rs.calm_ok, Ot.then_nx, Ot.then_rt, Ot.then_bk, Ot.then_ct, Ot.turn_nx, Ot.turn_ct, Ot.turn_bk, Ot.turn_rt, chg, asInt_int, isOwn_v, isOwn_o, isOwn_none, g_nm, g_tp, g_n, g_c, List.map_cons, List.map_nil, List.length_cons, List.length_nil, List.cons_append, List.nil_append, List.replicate_succ, List.replicate_zero, Nat.reduceSub, Nat.reduceAdd, Nat.reduceLeDiff, Nat.le_refl, Nat.zero_le, Nat.sub_self, Nat.reduceEqDiff, if_true, if_false, ite_true, ite_false, Bool.false_eq_true, decide_true, decide_false, beq_self_eq_true, List.any_cons, List.any_nil, Bool.or_false, Bool.false_or, Bool.or_true, Bool.and_true, Bool.true_and, Bool.false_and, Bool.and_false, Bool.not_true, Bool.not_false, reduceIte, Int.reduceLT, Int.reduceLE, Int.reduceNeg, Int.reducePow, Int.reduceToNat, Int.reduceSub, Int.reduceAdd, Int.reduceMul, decide_eq_true_eq, Int.toNat_natCast, okR, run_eq, out_nx, out_rt, beqT, beqF, and_self, Bool.true_or, Bool.or_self, b_addi, b_adds, b_addl, b_addt, b_sub, b_mul, b_div, b_mod, b_pow, c_eq, c_ne, c_lt, c_ltt, k_mn, nd_n, nd_b, nd_i, nd_s, nd_l, nd_t, nd_0, nd_c, c_le, c_gt, c_ge, c_is0, c_isi, c_iss, c_isl, c_ist, c_isb, c_no0, c_noi, c_nos, c_nol, c_not, c_nob, c_in, c_ni, u_n, u_b, u_i, u_s, u_l, u_t, f_lenl, f_lent, f_lens, f_ll, f_lt, f_tl, f_tt, f_int, f_bool, f_str, f_max2, f_min2, f_max, f_min, f_sum, f_sumt, l_s, c_les, g_ai, z_ll, z_lt, z_tl, z_tt, min_ints, min_t, mx_ints, mx_t, s_l, s_t, l_l, l_t, a_l, e_l, j_l, j_t, m_x, isn_i, isn_b, isn_s, isn_l, isn_t, isn_n, evb1, evb2, evc0, evc1, andB1, andB2, fl_n, fl_b, fl_i, fl_s, fl_t, fb_0, fb_i, fb_b, fb_s, b_rep, asBool_bool, n_10, Nat.reduceLT, tx_s, eqD_int, eqD_str, eqD_bool, eqD_nil_int, n_10, Nat.reduceLT, n_10, Nat.reduceLT, n_10, Nat.reduceLT, n_10, Nat.reduceLT, n_10, Nat.reduceLT, n_10, Nat.reduceLT, q_ev0, q_ev1, q_ev2, q_ev3, q_ev4, q_ev5, q_ev6, q_ev7, q_ev8, q_ev9, q_ev10, q_ev11, q_ev12, q_ev13, q_ev14, q_ev15, q_ev16, q_ev17, q_ev18, q_ev19, q_ev20, q_ev21, q_ev22, q_ev23, q_ev24, q_ev25, q_ev26, q_ev27, q_ev28, q_ev29, q_ev30, q_ev31, q_ev32, q_ev33, q_ev34, q_ev35, q_ev36, q_evs0, q_evs1, q_evo0, q_evo1, q_evw0, q_evw1, q_evw2, q_evw3, q_evw4, q_evw5, q_evw6, q_evw7, q_ex0, q_ex1, q_ex2, q_ex3, q_ex4, q_ex5, q_ex6, q_ex7, q_ex8, q_ex9, q_ex10, q_ex11, q_ex12, q_ex13, q_ex14, q_ex15, q_ex16, q_ex17, q_ex18, q_ex19, q_ex20, q_ex21, q_ex22, q_ex23, q_ex24, q_ex25, q_exs0, q_exs1, q_exs2, q_exs3, n_10, Nat.reduceLT, fn_rotated_0, fn_turn_print_0, fn_cut_print_0, fn_cut_print_1, gn_check_size_0, fn_join_prints_0, fn_join_prints_1, fn_work_and_turn_0, fn_work_and_turn_1, fn_work_and_tumble_0, fn_work_and_tumble_1, fn_printing_method_0, fn__law_same_0, fn__law_print_0, fn__law_print_1, fn__law_told_0, fn__law_told_1, fn__law_wider_0, fn_law_0, fn_law_1, fn_law_2, fn_law_3, fn_law_4, fn_law_5, fn_law_6, fn_law_7, fn_law_8, d_cut_print, ir_cut_print, e_bl, e_bt, ix_pr0, len_side, h1, h, n_cr, f_rr, por]
/-! ### joining -/
def catC (s t : Sd) : Sd := List.zipWith (· ++ ·) s t
theorem zip_side : ∀ (s t : Sd), zipD (s.map rowD) (t.map rowD) = (s.zip t).map fun p => .tuple [rowD p.1, rowD p.2]
  | [], t => by cases t <;> rfl
  | _ :: _, [] => rfl
  | r :: s, q :: t => by
    rw [List.map_cons, List.map_cons, zipD, zip_side s t]
    rfl
theorem zipS_side (s t : Sd) : zipS (sideD s) (sideD t) = .ok (s.map rowD, t.map rowD) := rfl
theorem add_row (r q : Rw) (h : r.length + q.length ≤ 16777216) : binD .Add (rowD r) (rowD q) = .ok (rowD (r ++ q)) := by
  rw [rowD, rowD, b_addt, if_pos (by rw [List.length_map, List.length_map]; exact h), rowD, List.map_append]
theorem add_side (r q : Sd) (h : r.length + q.length ≤ 16777216) : binD .Add (sideD r) (sideD q) = .ok (sideD (r ++ q)) := by
  rw [sideD, sideD, b_addt, if_pos (by rw [List.length_map, List.length_map]; exact h), sideD, List.map_append]
theorem catC_map (s t : Sd) : (.tuple ((s.zip t).map fun p => rowD (p.1 ++ p.2)) : D) = sideD (catC s t) := by
  rw [sideD, catC, List.map_zipWith, List.zip, List.map_zipWith]
theorem catC_map2 (s t : Sd) : (.tuple ((s.zip t).map fun p => rowD (p.2 ++ p.1)) : D) = sideD (catC t s) := by
  rw [sideD, catC, List.map_zipWith, List.zip, List.map_zipWith]
  congr 1
  exact List.zipWith_comm
/-- no row is long -/
def Sh (s : Sd) : Prop := s.length ≤ 1000 ∧ ∀ r ∈ s, r.length ≤ 1000
theorem zip_sh {s t : Sd} (hs : Sh s) (ht : Sh t) {p : Rw × Rw} (h : p ∈ s.zip t) : p.1.length + p.2.length ≤ 16777216 ∧ p.2.length + p.1.length ≤ 16777216 := by
  obtain ⟨h1, h2⟩ := List.of_mem_zip (a := p.1) (b := p.2) (by simpa using h)
  have := hs.2 _ h1
  have := ht.2 _ h2
  omega
theorem jn_v {f b f2 b2 : Sd} (h1 : Sh f) (h2 : Sh b) (h3 : Sh f2) (h4 : Sh b2) : d_joined [prD (f, b), prD (f2, b2), .str "vertical"] = .ok (prD (catC f f2, catC b2 b)) := by
  simp (implicitDefEqProofs := false) only [out_er, r_x, r_call, r_cv, r_ife, pick_c, isFn_fn, h_fld, h_var, h_non, h_bl, h_int, h_str, h_cmp, h_bo, h_nt, h_ife, h_ret, h_ifr, fld_1, cmpH_ss, cmpH_ii, par_2, par_3, f0_s, f0_i, eq_self, fl_all1, zip_1, Rs.toX_ok, Rs.toX_er, Rs.toX_st, Ot.catch_nx, Ot.catch_rt, Ot.catch_bk, Ot.catch_ct, Ot.catch_er, Ot.catch_st, Ot.then_er, Ot.turn_er, and_self, vl_v, ow_o, gt_zero, gt_succ, pt_zero, pt_succ, kil_nil, kil_cons, Rs.bind_ok, Rs.to_ok, Rs.calm_ok, Ot.then_nx, Ot.then_rt, Ot.then_bk, Ot.then_ct, Ot.turn_nx, Ot.turn_ct, Ot.turn_bk, Ot.turn_rt, chg, asInt_int, isOwn_v, isOwn_o, isOwn_none, g_nm, g_tp, g_n, g_c, List.map_cons, List.map_nil, List.length_cons, List.length_nil, List.cons_append, List.nil_append, List.replicate_succ, List.replicate_zero, Nat.reduceSub, Nat.reduceAdd, Nat.reduceLeDiff, Nat.le_refl, Nat.zero_le, Nat.sub_self, Nat.reduceEqDiff, if_true, if_false, ite_true, ite_false, Bool.false_eq_true, decide_true, decide_false, beq_self_eq_true, List.any_cons, List.any_nil, Bool.or_false, Bool.false_or, Bool.or_true, Bool.and_true, Bool.true_and, Bool.false_and, Bool.and_false, Bool.not_true, Bool.not_false, reduceIte, Int.reduceLT, Int.reduceLE, Int.reduceNeg, Int.reducePow, Int.reduceToNat, Int.reduceSub, Int.reduceAdd, Int.reduceMul, decide_eq_true_eq, Int.toNat_natCast, okR, run_eq, out_nx, out_rt, beqT, beqF, and_self, Bool.true_or, Bool.or_self, b_addi, b_adds, b_addl, b_addt, b_sub, b_mul, b_div, b_mod, b_pow, c_eq, c_ne, c_lt, c_ltt, k_mn, nd_n, nd_b, nd_i, nd_s, nd_l, nd_t, nd_0, nd_c, c_le, c_gt, c_ge, c_is0, c_isi, c_iss, c_isl, c_ist, c_isb, c_no0, c_noi, c_nos, c_nol, c_not, c_nob, c_in, c_ni, u_n, u_b, u_i, u_s, u_l, u_t, f_lenl, f_lent, f_lens, f_ll, f_lt, f_tl, f_tt, f_int, f_bool, f_str, f_max2, f_min2, f_max, f_min, f_sum, f_sumt, l_s, c_les, g_ai, z_ll, z_lt, z_tl, z_tt, min_ints, min_t, mx_ints, mx_t, s_l, s_t, l_l, l_t, a_l, e_l, j_l, j_t, m_x, isn_i, isn_b, isn_s, isn_l, isn_t, isn_n, evb1, evb2, evc0, evc1, andB1, andB2, fl_n, fl_b, fl_i, fl_s, fl_t, fb_0, fb_i, fb_b, fb_s, b_rep, asBool_bool, n_10, Nat.reduceLT, tx_s, eqD_int, eqD_str, eqD_bool, eqD_nil_int, n_10, Nat.reduceLT, n_10, Nat.reduceLT, n_10, Nat.reduceLT, n_10, Nat.reduceLT, n_10, Nat.reduceLT, n_10, Nat.reduceLT, q_ev0, q_ev1, q_ev2, q_ev3, q_ev4, q_ev5, q_ev6, q_ev7, q_ev8, q_ev9, q_ev10, q_ev11, q_ev12, q_ev13, q_ev14, q_ev15, q_ev16, q_ev17, q_ev18, q_ev19, q_ev20, q_ev21, q_ev22, q_ev23, q_ev24, q_ev25, q_ev26, q_ev27, q_ev28, q_ev29, q_ev30, q_ev31, q_ev32, q_ev33, q_ev34, q_ev35, q_ev36, q_evs0, q_evs1, q_evo0, q_evo1, q_evw0, q_evw1, q_evw2, q_evw3, q_evw4, q_evw5, q_evw6, q_evw7, q_ex0, q_ex1, q_ex2, q_ex3, q_ex4, q_ex5, q_ex6, q_ex7, q_ex8, q_ex9, q_ex10, q_ex11, q_ex12, q_ex13, q_ex14, q_ex15, q_ex16, q_ex17, q_ex18, q_ex19, q_ex20, q_ex21, q_ex22, q_ex23, q_ex24, q_ex25, q_exs0, q_exs1, q_exs2, q_exs3, n_10, Nat.reduceLT, fn_rotated_0, fn_turn_print_0, fn_cut_print_0, fn_cut_print_1, gn_check_size_0, fn_join_prints_0, fn_join_prints_1, fn_work_and_turn_0, fn_work_and_turn_1, fn_work_and_tumble_0, fn_work_and_tumble_1, fn_printing_method_0, fn__law_same_0, fn__law_print_0, fn__law_print_1, fn__law_told_0, fn__law_told_1, fn__law_wider_0, fn_law_0, fn_law_1, fn_law_2, fn_law_3, fn_law_4, fn_law_5, fn_law_6, fn_law_7, fn_law_8, d_joined, ir_joined, ix_pr0, ix_pr1, zipS_side, zip_side]
  rw [mapR_map (g := fun (p : Rw × Rw) => rowD (p.1 ++ p.2))]
  · simp (implicitDefEqProofs := false) only [out_er, r_x, r_call, r_cv, r_ife, pick_c, isFn_fn, h_fld, h_var, h_non, h_bl, h_int, h_str, h_cmp, h_bo, h_nt, h_ife, h_ret, h_ifr, fld_1, cmpH_ss, cmpH_ii, par_2, par_3, f0_s, f0_i, eq_self, fl_all1, zip_1, Rs.toX_ok, Rs.toX_er, Rs.toX_st, Ot.catch_nx, Ot.catch_rt, Ot.catch_bk, Ot.catch_ct, Ot.catch_er, Ot.catch_st, Ot.then_er, Ot.turn_er, and_self, vl_v, ow_o, gt_zero, gt_succ, pt_zero, pt_succ, kil_nil, kil_cons, Rs.bind_ok, Rs.to_ok, Rs.calm_ok, Ot.then_nx, Ot.then_rt, Ot.then_bk, Ot.then_ct, Ot.turn_nx, Ot.turn_ct, Ot.turn_bk, Ot.turn_rt, chg, asInt_int, isOwn_v, isOwn_o, isOwn_none, g_nm, g_tp, g_n, g_c, List.map_cons, List.map_nil, List.length_cons, List.length_nil, List.cons_append, List.nil_append, List.replicate_succ, List.replicate_zero, Nat.reduceSub, Nat.reduceAdd, Nat.reduceLeDiff, Nat.le_refl, Nat.zero_le, Nat.sub_self, Nat.reduceEqDiff, if_true, if_false, ite_true, ite_false, Bool.false_eq_true, decide_true, decide_false, beq_self_eq_true, List.any_cons, List.any_nil, Bool.or_false, Bool.false_or, Bool.or_true, Bool.and_true, Bool.true_and, Bool.false_and, Bool.and_false, Bool.not_true, Bool.not_false, reduceIte, Int.reduceLT, Int.reduceLE, Int.reduceNeg, Int.reducePow, Int.reduceToNat, Int.reduceSub, Int.reduceAdd, Int.reduceMul, decide_eq_true_eq, Int.toNat_natCast, okR, run_eq, out_nx, out_rt, beqT, beqF, and_self, Bool.true_or, Bool.or_self, b_addi, b_adds, b_addl, b_addt, b_sub, b_mul, b_div, b_mod, b_pow, c_eq, c_ne, c_lt, c_ltt, k_mn, nd_n, nd_b, nd_i, nd_s, nd_l, nd_t, nd_0, nd_c, c_le, c_gt, c_ge, c_is0, c_isi, c_iss, c_isl, c_ist, c_isb, c_no0, c_noi, c_nos, c_nol, c_not, c_nob, c_in, c_ni, u_n, u_b, u_i, u_s, u_l, u_t, f_lenl, f_lent, f_lens, f_ll, f_lt, f_tl, f_tt, f_int, f_bool, f_str, f_max2, f_min2, f_max, f_min, f_sum, f_sumt, l_s, c_les, g_ai, z_ll, z_lt, z_tl, z_tt, min_ints, min_t, mx_ints, mx_t, s_l, s_t, l_l, l_t, a_l, e_l, j_l, j_t, m_x, isn_i, isn_b, isn_s, isn_l, isn_t, isn_n, evb1, evb2, evc0, evc1, andB1, andB2, fl_n, fl_b, fl_i, fl_s, fl_t, fb_0, fb_i, fb_b, fb_s, b_rep, asBool_bool, n_10, Nat.reduceLT, tx_s, eqD_int, eqD_str, eqD_bool, eqD_nil_int, n_10, Nat.reduceLT, n_10, Nat.reduceLT, n_10, Nat.reduceLT, n_10, Nat.reduceLT, n_10, Nat.reduceLT, n_10, Nat.reduceLT, q_ev0, q_ev1, q_ev2, q_ev3, q_ev4, q_ev5, q_ev6, q_ev7, q_ev8, q_ev9, q_ev10, q_ev11, q_ev12, q_ev13, q_ev14, q_ev15, q_ev16, q_ev17, q_ev18, q_ev19, q_ev20, q_ev21, q_ev22, q_ev23, q_ev24, q_ev25, q_ev26, q_ev27, q_ev28, q_ev29, q_ev30, q_ev31, q_ev32, q_ev33, q_ev34, q_ev35, q_ev36, q_evs0, q_evs1, q_evo0, q_evo1, q_evw0, q_evw1, q_evw2, q_evw3, q_evw4, q_evw5, q_evw6, q_evw7, q_ex0, q_ex1, q_ex2, q_ex3, q_ex4, q_ex5, q_ex6, q_ex7, q_ex8, q_ex9, q_ex10, q_ex11, q_ex12, q_ex13, q_ex14, q_ex15, q_ex16, q_ex17, q_ex18, q_ex19, q_ex20, q_ex21, q_ex22, q_ex23, q_ex24, q_ex25, q_exs0, q_exs1, q_exs2, q_exs3, n_10, Nat.reduceLT, fn_rotated_0, fn_turn_print_0, fn_cut_print_0, fn_cut_print_1, gn_check_size_0, fn_join_prints_0, fn_join_prints_1, fn_work_and_turn_0, fn_work_and_turn_1, fn_work_and_tumble_0, fn_work_and_tumble_1, fn_printing_method_0, fn__law_same_0, fn__law_print_0, fn__law_print_1, fn__law_told_0, fn__law_told_1, fn__law_wider_0, fn_law_0, fn_law_1, fn_law_2, fn_law_3, fn_law_4, fn_law_5, fn_law_6, fn_law_7, fn_law_8, zipS_side, zip_side, ix_pr1, catC_map]
    rw [mapR_map (g := fun (p : Rw × Rw) => rowD (p.2 ++ p.1))]
    · simp (implicitDefEqProofs := false) only [out_er, r_x, r_call, r_cv, r_ife, pick_c, isFn_fn, h_fld, h_var, h_non, h_bl, h_int, h_str, h_cmp, h_bo, h_nt, h_ife, h_ret, h_ifr, fld_1, cmpH_ss, cmpH_ii, par_2, par_3, f0_s, f0_i, eq_self, fl_all1, zip_1, Rs.toX_ok, Rs.toX_er, Rs.toX_st, Ot.catch_nx, Ot.catch_rt, Ot.catch_bk, Ot.catch_ct, Ot.catch_er, Ot.catch_st, Ot.then_er, Ot.turn_er, and_self, vl_v, ow_o, gt_zero, gt_succ, pt_zero, pt_succ, kil_nil, kil_cons, Rs.bind_ok, Rs.to_ok, Rs.calm_ok, Ot.then_nx, Ot.then_rt, Ot.then_bk, Ot.then_ct, Ot.turn_nx, Ot.turn_ct, Ot.turn_bk, Ot.turn_rt, chg, asInt_int, isOwn_v, isOwn_o, isOwn_none, g_nm, g_tp, g_n, g_c, List.map_cons, List.map_nil, List.length_cons, List.length_nil, List.cons_append, List.nil_append, List.replicate_succ, List.replicate_zero, Nat.reduceSub, Nat.reduceAdd, Nat.reduceLeDiff, Nat.le_refl, Nat.zero_le, Nat.sub_self, Nat.reduceEqDiff, if_true, if_false, ite_true, ite_false, Bool.false_eq_true, decide_true, decide_false, beq_self_eq_true, List.any_cons, List.any_nil, Bool.or_false, Bool.false_or, Bool.or_true, Bool.and_true, Bool.true_and, Bool.false_and, Bool.and_false, Bool.not_true, Bool.not_false, reduceIte, Int.reduceLT, Int.reduceLE, Int.reduceNeg, Int.reducePow, Int.reduceToNat, Int.reduceSub, Int.reduceAdd, Int.reduceMul, decide_eq_true_eq, Int.toNat_natCast, okR, run_eq, out_nx, out_rt, beqT, beqF, and_self, Bool.true_or, Bool.or_self, b_addi, b_adds, b_addl, b_addt, b_sub, b_mul, b_div, b_mod, b_pow, c_eq, c_ne, c_lt, c_ltt, k_mn, nd_n, nd_b, nd_i, nd_s, nd_l, nd_t, nd_0, nd_c, c_le, c_gt, c_ge, c_is0, c_isi, c_iss, c_isl, c_ist, c_isb, c_no0, c_noi, c_nos, c_nol, c_not, c_nob, c_in, c_ni, u_n, u_b, u_i, u_s, u_l, u_t, f_lenl, f_lent, f_lens, f_ll, f_lt, f_tl, f_tt, f_int, f_bool, f_str, f_max2, f_min2, f_max, f_min, f_sum, f_sumt, l_s, c_les, g_ai, z_ll, z_lt, z_tl, z_tt, min_ints, min_t, mx_ints, mx_t, s_l, s_t, l_l, l_t, a_l, e_l, j_l, j_t, m_x, isn_i, isn_b, isn_s, isn_l, isn_t, isn_n, evb1, evb2, evc0, evc1, andB1, andB2, fl_n, fl_b, fl_i, fl_s, fl_t, fb_0, fb_i, fb_b, fb_s, b_rep, asBool_bool, n_10, Nat.reduceLT, tx_s, eqD_int, eqD_str, eqD_bool, eqD_nil_int, n_10, Nat.reduceLT, n_10, Nat.reduceLT, n_10, Nat.reduceLT, n_10, Nat.reduceLT, n_10, Nat.reduceLT, n_10, Nat.reduceLT, q_ev0, q_ev1, q_ev2, q_ev3, q_ev4, q_ev5, q_ev6, q_ev7, q_ev8, q_ev9, q_ev10, q_ev11, q_ev12, q_ev13, q_ev14, q_ev15, q_ev16, q_ev17, q_ev18, q_ev19, q_ev20, q_ev21, q_ev22, q_ev23, q_ev24, q_ev25, q_ev26, q_ev27, q_ev28, q_ev29, q_ev30, q_ev31, q_ev32, q_ev33, q_ev34, q_ev35, q_ev36, q_evs0, q_evs1, q_evo0, q_evo1, q_evw0, q_evw1, q_evw2, q_evw3, q_evw4, q_evw5, q_evw6, q_evw7, q_ex0, q_ex1, q_ex2, q_ex3, q_ex4, q_ex5, q_ex6, q_ex7, q_ex8, q_ex9, q_ex10, q_ex11, q_ex12, q_ex13, q_ex14, q_ex15, q_ex16, q_ex17, q_ex18, q_ex19, q_ex20, q_ex21, q_ex22, q_ex23, q_ex24, q_ex25, q_exs0, q_exs1, q_exs2, q_exs3, n_10, Nat.reduceLT, fn_rotated_0, fn_turn_print_0, fn_cut_print_0, fn_cut_print_1, gn_check_size_0, fn_join_prints_0, fn_join_prints_1, fn_work_and_turn_0, fn_work_and_turn_1, fn_work_and_tumble_0, fn_work_and_tumble_1, fn_printing_method_0, fn__law_same_0, fn__law_print_0, fn__law_print_1, fn__law_told_0, fn__law_told_1, fn__law_wider_0, fn_law_0, fn_law_1, fn_law_2, fn_law_3, fn_law_4, fn_law_5, fn_law_6, fn_law_7, fn_law_8, catC_map2]
      rfl
    · intro p hp
      have z := (zip_sh h2 h4 hp).2
      simp (implicitDefEqProofs := false) only [out_er, r_x, r_call, r_cv, r_ife, pick_c, isFn_fn, h_fld, h_var, h_non, h_bl, h_int, h_str, h_cmp, h_bo, h_nt, h_ife, h_ret, h_ifr, fld_1, cmpH_ss, cmpH_ii, par_2, par_3, f0_s, f0_i, eq_self, fl_all1, zip_1, Rs.toX_ok, Rs.toX_er, Rs.toX_st, Ot.catch_nx, Ot.catch_rt, Ot.catch_bk, Ot.catch_ct, Ot.catch_er, Ot.catch_st, Ot.then_er, Ot.turn_er, and_self, vl_v, ow_o, gt_zero, gt_succ, pt_zero, pt_succ, kil_nil, kil_cons, Rs.bind_ok, Rs.to_ok, Rs.calm_ok, Ot.then_nx, Ot.then_rt, Ot.then_bk, Ot.then_ct, Ot.turn_nx, Ot.turn_ct, Ot.turn_bk, Ot.turn_rt, chg, asInt_int, isOwn_v, isOwn_o, isOwn_none, g_nm, g_tp, g_n, g_c, List.map_cons, List.map_nil, List.length_cons, List.length_nil, List.cons_append, List.nil_append, List.replicate_succ, List.replicate_zero, Nat.reduceSub, Nat.reduceAdd, Nat.reduceLeDiff, Nat.le_refl, Nat.zero_le, Nat.sub_self, Nat.reduceEqDiff, if_true, if_false, ite_true, ite_false, Bool.false_eq_true, decide_true, decide_false, beq_self_eq_true, List.any_cons, List.any_nil, Bool.or_false, Bool.false_or, Bool.or_true, Bool.and_true, Bool.true_and, Bool.false_and, Bool.and_false, Bool.not_true, Bool.not_false, reduceIte, Int.reduceLT, Int.reduceLE, Int.reduceNeg, Int.reducePow, Int.reduceToNat, Int.reduceSub, Int.reduceAdd, Int.reduceMul, decide_eq_true_eq, Int.toNat_natCast, okR, run_eq, out_nx, out_rt, beqT, beqF, and_self, Bool.true_or, Bool.or_self, b_addi, b_adds, b_addl, b_addt, b_sub, b_mul, b_div, b_mod, b_pow, c_eq, c_ne, c_lt, c_ltt, k_mn, nd_n, nd_b, nd_i, nd_s, nd_l, nd_t, nd_0, nd_c, c_le, c_gt, c_ge, c_is0, c_isi, c_iss, c_isl, c_ist, c_isb, c_no0, c_noi, c_nos, c_nol, c_not, c_nob, c_in, c_ni, u_n, u_b, u_i, u_s, u_l, u_t, f_lenl, f_lent, f_lens, f_ll, f_lt, f_tl, f_tt, f_int, f_bool, f_str, f_max2, f_min2, f_max, f_min, f_sum, f_sumt, l_s, c_les, g_ai, z_ll, z_lt, z_tl, z_tt, min_ints, min_t, mx_ints, mx_t, s_l, s_t, l_l, l_t, a_l, e_l, j_l, j_t, m_x, isn_i, isn_b, isn_s, isn_l, isn_t, isn_n, evb1, evb2, evc0, evc1, andB1, andB2, fl_n, fl_b, fl_i, fl_s, fl_t, fb_0, fb_i, fb_b, fb_s, b_rep, asBool_bool, n_10, Nat.reduceLT, tx_s, eqD_int, eqD_str, eqD_bool, eqD_nil_int, n_10, Nat.reduceLT, n_10, Nat.reduceLT, n_10, Nat.reduceLT, n_10, Nat.reduceLT, n_10, Nat.reduceLT, n_10, Nat.reduceLT, q_ev0, q_ev1, q_ev2, q_ev3, q_ev4, q_ev5, q_ev6, q_ev7, q_ev8, q_ev9, q_ev10, q_ev11, q_ev12, q_ev13, q_ev14, q_ev15, q_ev16, q_ev17, q_ev18, q_ev19, q_ev20, q_ev21, q_ev22, q_ev23, q_ev24, q_ev25, q_ev26, q_ev27, q_ev28, q_ev29, q_ev30, q_ev31, q_ev32, q_ev33, q_ev34, q_ev35, q_ev36, q_evs0, q_evs1, q_evo0, q_evo1, q_evw0, q_evw1, q_evw2, q_evw3, q_evw4, q_evw5, q_evw6, q_evw7, q_ex0, q_ex1, q_ex2, q_ex3, q_ex4, q_ex5, q_ex6, q_ex7, q_ex8, q_ex9, q_ex10, q_ex11, q_ex12, q_ex13, q_ex14, q_ex15, q_ex16, q_ex17, q_ex18, q_ex19, q_ex20, q_ex21, q_ex22, q_ex23, q_ex24, q_ex25, q_exs0, q_exs1, q_exs2, q_exs3, n_10, Nat.reduceLT, fn_rotated_0, fn_turn_print_0, fn_cut_print_0, fn_cut_print_1, gn_check_size_0, fn_join_prints_0, fn_join_prints_1, fn_work_and_turn_0, fn_work_and_turn_1, fn_work_and_tumble_0, fn_work_and_tumble_1, fn_printing_method_0, fn__law_same_0, fn__law_print_0, fn__law_print_1, fn__law_told_0, fn__law_told_1, fn__law_wider_0, fn_law_0, fn_law_1, fn_law_2, fn_law_3, fn_law_4, fn_law_5, fn_law_6, fn_law_7, fn_law_8, add_row _ _ z]
  · intro p hp
    have z := (zip_sh h1 h3 hp).1
    simp (implicitDefEqProofs := false) only [out_er, r_x, r_call, r_cv, r_ife, pick_c, isFn_fn, h_fld, h_var, h_non, h_bl, h_int, h_str, h_cmp, h_bo, h_nt, h_ife, h_ret, h_ifr, fld_1, cmpH_ss, cmpH_ii, par_2, par_3, f0_s, f0_i, eq_self, fl_all1, zip_1, Rs.toX_ok, Rs.toX_er, Rs.toX_st, Ot.catch_nx, Ot.catch_rt, Ot.catch_bk, Ot.catch_ct, Ot.catch_er, Ot.catch_st, Ot.then_er, Ot.turn_er, and_self, vl_v, ow_o, gt_zero, gt_succ, pt_zero, pt_succ, kil_nil, kil_cons, Rs.bind_ok, Rs.to_ok, Rs.calm_ok, Ot.then_nx, Ot.then_rt, Ot.then_bk, Ot.then_ct, Ot.turn_nx, Ot.turn_ct, Ot.turn_bk, Ot.turn_rt, chg, asInt_int, isOwn_v, isOwn_o, isOwn_none, g_nm, g_tp, g_n, g_c, List.map_cons, List.map_nil, List.length_cons, List.length_nil, List.cons_append, List.nil_append, List.replicate_succ, List.replicate_zero, Nat.reduceSub, Nat.reduceAdd, Nat.reduceLeDiff, Nat.le_refl, Nat.zero_le, Nat.sub_self, Nat.reduceEqDiff, if_true, if_false, ite_true, ite_false, Bool.false_eq_true, decide_true, decide_false, beq_self_eq_true, List.any_cons, List.any_nil, Bool.or_false, Bool.false_or, Bool.or_true, Bool.and_true, Bool.true_and, Bool.false_and, Bool.and_false, Bool.not_true, Bool.not_false, reduceIte, Int.reduceLT, Int.reduceLE, Int.reduceNeg, Int.reducePow, Int.reduceToNat, Int.reduceSub, Int.reduceAdd, Int.reduceMul, decide_eq_true_eq, Int.toNat_natCast, okR, run_eq, out_nx, out_rt, beqT, beqF, and_self, Bool.true_or, Bool.or_self, b_addi, b_adds, b_addl, b_addt, b_sub, b_mul, b_div, b_mod, b_pow, c_eq, c_ne, c_lt, c_ltt, k_mn, nd_n, nd_b, nd_i, nd_s, nd_l, nd_t, nd_0, nd_c, c_le, c_gt, c_ge, c_is0, c_isi, c_iss, c_isl, c_ist, c_isb, c_no0, c_noi, c_nos, c_nol, c_not, c_nob, c_in, c_ni, u_n, u_b, u_i, u_s, u_l, u_t, f_lenl, f_lent, f_lens, f_ll, f_lt, f_tl, f_tt, f_int, f_bool, f_str, f_max2, f_min2, f_max, f_min, f_sum, f_sumt, l_s, c_les, g_ai, z_ll, z_lt, z_tl, z_tt, min_ints, min_t, mx_ints, mx_t, s_l, s_t, l_l, l_t, a_l, e_l, j_l, j_t, m_x, isn_i, isn_b, isn_s, isn_l, isn_t, isn_n, evb1, evb2, evc0, evc1, andB1, andB2, fl_n, fl_b, fl_i, fl_s, fl_t, fb_0, fb_i, fb_b, fb_s, b_rep, asBool_bool, n_10, Nat.reduceLT, tx_s, eqD_int, eqD_str, eqD_bool, eqD_nil_int, n_10, Nat.reduceLT, n_10, Nat.reduceLT, n_10, Nat.reduceLT, n_10, Nat.reduceLT, n_10, Nat.reduceLT, n_10, Nat.reduceLT, q_ev0, q_ev1, q_ev2, q_ev3, q_ev4, q_ev5, q_ev6, q_ev7, q_ev8, q_ev9, q_ev10, q_ev11, q_ev12, q_ev13, q_ev14, q_ev15, q_ev16, q_ev17, q_ev18, q_ev19, q_ev20, q_ev21, q_ev22, q_ev23, q_ev24, q_ev25, q_ev26, q_ev27, q_ev28, q_ev29, q_ev30, q_ev31, q_ev32, q_ev33, q_ev34, q_ev35, q_ev36, q_evs0, q_evs1, q_evo0, q_evo1, q_evw0, q_evw1, q_evw2, q_evw3, q_evw4, q_evw5, q_evw6, q_evw7, q_ex0, q_ex1, q_ex2, q_ex3, q_ex4, q_ex5, q_ex6, q_ex7, q_ex8, q_ex9, q_ex10, q_ex11, q_ex12, q_ex13, q_ex14, q_ex15, q_ex16, q_ex17, q_ex18, q_ex19, q_ex20, q_ex21, q_ex22, q_ex23, q_ex24, q_ex25, q_exs0, q_exs1, q_exs2, q_exs3, n_10, Nat.reduceLT, fn_rotated_0, fn_turn_print_0, fn_cut_print_0, fn_cut_print_1, gn_check_size_0, fn_join_prints_0, fn_join_prints_1, fn_work_and_turn_0, fn_work_and_turn_1, fn_work_and_tumble_0, fn_work_and_tumble_1, fn_printing_method_0, fn__law_same_0, fn__law_print_0, fn__law_print_1, fn__law_told_0, fn__law_told_1, fn__law_wider_0, fn_law_0, fn_law_1, fn_law_2, fn_law_3, fn_law_4, fn_law_5, fn_law_6, fn_law_7, fn_law_8, add_row _ _ z]
theorem jn_h {f b f2 b2 : Sd} (h1 : Sh f) (h2 : Sh b) (h3 : Sh f2) (h4 : Sh b2) : d_joined [prD (f, b), prD (f2, b2), .str "horizontal"] = .ok (prD (f ++ f2, b ++ b2)) := by
  have z1 : f.length + f2.length ≤ 16777216 := by have := h1.1; have := h3.1; omega
  have z2 : b.length + b2.length ≤ 16777216 := by have := h2.1; have := h4.1; omega
  simp (implicitDefEqProofs := false) only [out_er, r_x, r_call, r_cv, r_ife, pick_c, isFn_fn, h_fld, h_var, h_non, h_bl, h_int, h_str, h_cmp, h_bo, h_nt, h_ife, h_ret, h_ifr, fld_1, cmpH_ss, cmpH_ii, par_2, par_3, f0_s, f0_i, eq_self, fl_all1, zip_1, Rs.toX_ok, Rs.toX_er, Rs.toX_st, Ot.catch_nx, Ot.catch_rt, Ot.catch_bk, Ot.catch_ct, Ot.catch_er, Ot.catch_st, Ot.then_er, Ot.turn_er, and_self, vl_v, ow_o, gt_zero, gt_succ, pt_zero, pt_succ, kil_nil, kil_cons, Rs.bind_ok, Rs.to_ok, Rs.calm_ok, Ot.then_nx, Ot.then_rt, Ot.then_bk, Ot.then_ct, Ot.turn_nx, Ot.turn_ct, Ot.turn_bk, Ot.turn_rt, chg, asInt_int, isOwn_v, isOwn_o, isOwn_none, g_nm, g_tp, g_n, g_c, List.map_cons, List.map_nil, List.length_cons, List.length_nil, List.cons_append, List.nil_append, List.replicate_succ, List.replicate_zero, Nat.reduceSub, Nat.reduceAdd, Nat.reduceLeDiff, Nat.le_refl, Nat.zero_le, Nat.sub_self, Nat.reduceEqDiff, if_true, if_false, ite_true, ite_false, Bool.false_eq_true, decide_true, decide_false, beq_self_eq_true, List.any_cons, List.any_nil, Bool.or_false, Bool.false_or, Bool.or_true, Bool.and_true, Bool.true_and, Bool.false_and, Bool.and_false, Bool.not_true, Bool.not_false, reduceIte, Int.reduceLT, Int.reduceLE, Int.reduceNeg, Int.reducePow, Int.reduceToNat, Int.reduceSub, Int.reduceAdd, Int.reduceMul, decide_eq_true_eq, Int.toNat_natCast, okR, run_eq, out_nx, out_rt, beqT, beqF, and_self, Bool.true_or, Bool.or_self, b_addi, b_adds, b_addl, b_addt, b_sub, b_mul, b_div, b_mod, b_pow, c_eq, c_ne, c_lt, c_ltt, k_mn, nd_n, nd_b, nd_i, nd_s, nd_l, nd_t, nd_0, nd_c, c_le, c_gt, c_ge, c_is0, c_isi, c_iss, c_isl, c_ist, c_isb, c_no0, c_noi, c_nos, c_nol, c_not, c_nob, c_in, c_ni, u_n, u_b, u_i, u_s, u_l, u_t, f_lenl, f_lent, f_lens, f_ll, f_lt, f_tl, f_tt, f_int, f_bool, f_str, f_max2, f_min2, f_max, f_min, f_sum, f_sumt, l_s, c_les, g_ai, z_ll, z_lt, z_tl, z_tt, min_ints, min_t, mx_ints, mx_t, s_l, s_t, l_l, l_t, a_l, e_l, j_l, j_t, m_x, isn_i, isn_b, isn_s, isn_l, isn_t, isn_n, evb1, evb2, evc0, evc1, andB1, andB2, fl_n, fl_b, fl_i, fl_s, fl_t, fb_0, fb_i, fb_b, fb_s, b_rep, asBool_bool, n_10, Nat.reduceLT, tx_s, eqD_int, eqD_str, eqD_bool, eqD_nil_int, n_10, Nat.reduceLT, n_10, Nat.reduceLT, n_10, Nat.reduceLT, n_10, Nat.reduceLT, n_10, Nat.reduceLT, n_10, Nat.reduceLT, q_ev0, q_ev1, q_ev2, q_ev3, q_ev4, q_ev5, q_ev6, q_ev7, q_ev8, q_ev9, q_ev10, q_ev11, q_ev12, q_ev13, q_ev14, q_ev15, q_ev16, q_ev17, q_ev18, q_ev19, q_ev20, q_ev21, q_ev22, q_ev23, q_ev24, q_ev25, q_ev26, q_ev27, q_ev28, q_ev29, q_ev30, q_ev31, q_ev32, q_ev33, q_ev34, q_ev35, q_ev36, q_evs0, q_evs1, q_evo0, q_evo1, q_evw0, q_evw1, q_evw2, q_evw3, q_evw4, q_evw5, q_evw6, q_evw7, q_ex0, q_ex1, q_ex2, q_ex3, q_ex4, q_ex5, q_ex6, q_ex7, q_ex8, q_ex9, q_ex10, q_ex11, q_ex12, q_ex13, q_ex14, q_ex15, q_ex16, q_ex17, q_ex18, q_ex19, q_ex20, q_ex21, q_ex22, q_ex23, q_ex24, q_ex25, q_exs0, q_exs1, q_exs2, q_exs3, n_10, Nat.reduceLT, fn_rotated_0, fn_turn_print_0, fn_cut_print_0, fn_cut_print_1, gn_check_size_0, fn_join_prints_0, fn_join_prints_1, fn_work_and_turn_0, fn_work_and_turn_1, fn_work_and_tumble_0, fn_work_and_tumble_1, fn_printing_method_0, fn__law_same_0, fn__law_print_0, fn__law_print_1, fn__law_told_0, fn__law_told_1, fn__law_wider_0, fn_law_0, fn_law_1, fn_law_2, fn_law_3, fn_law_4, fn_law_5, fn_law_6, fn_law_7, fn_law_8, d_joined, ir_joined, ix_pr0, ix_pr1, n_hv, add_side _ _ z1, add_side _ _ z2]
  rfl
abbrev bigE : Rs D := .er "Refused" [("what", .str "print is too large")]
theorem cs_ok {n m : Nat} {f b : Sd} (hf : Rc n m f) (hn : 1 ≤ n) (h1 : n ≤ 8) (h2 : m ≤ 8) : d_check_size [prD (f, b)] = .ok .none := by
  obtain ⟨r, g1, g2⟩ := ix_side hf hn
  have e := hf.1
  have k1 : ¬ (8 : Int) < (n : Int) := by omega
  have k2 : ¬ (8 : Int) < (m : Int) := by omega
  simp (implicitDefEqProofs := false) only [out_er, r_x, r_call, r_cv, r_ife, pick_c, isFn_fn, h_fld, h_var, h_non, h_bl, h_int, h_str, h_cmp, h_bo, h_nt, h_ife, h_ret, h_ifr, fld_1, cmpH_ss, cmpH_ii, par_2, par_3, f0_s, f0_i, eq_self, fl_all1, zip_1, Rs.toX_ok, Rs.toX_er, Rs.toX_st, Ot.catch_nx, Ot.catch_rt, Ot.catch_bk, Ot.catch_ct, Ot.catch_er, Ot.catch_st, Ot.then_er, Ot.turn_er, and_self, vl_v, ow_o, gt_zero, gt_succ, pt_zero, pt_succ, kil_nil, kil_cons, Rs.bind_ok, Rs.to_ok, Rs.calm_ok, Ot.then_nx, Ot.then_rt, Ot.then_bk, Ot.then_ct, Ot.turn_nx, Ot.turn_ct, Ot.turn_bk, Ot.turn_rt, chg, asInt_int, isOwn_v, isOwn_o, isOwn_none, g_nm, g_tp, g_n, g_c, List.map_cons, List.map_nil, List.length_cons, List.length_nil, List.cons_append, List.nil_append, List.replicate_succ, List.replicate_zero, Nat.reduceSub, Nat.reduceAdd, Nat.reduceLeDiff, Nat.le_refl, Nat.zero_le, Nat.sub_self, Nat.reduceEqDiff, if_true, if_false, ite_true, ite_false, Bool.false_eq_true, decide_true, decide_false, beq_self_eq_true, List.any_cons, List.any_nil, Bool.or_false, Bool.false_or, Bool.or_true, Bool.and_true, Bool.true_and, Bool.false_and, Bool.and_false, Bool.not_true, Bool.not_false, reduceIte, Int.reduceLT, Int.reduceLE, Int.reduceNeg, Int.reducePow, Int.reduceToNat, Int.reduceSub, Int.reduceAdd, Int.reduceMul, decide_eq_true_eq, Int.toNat_natCast, okR, run_eq, out_nx, out_rt, beqT, beqF, and_self, Bool.true_or, Bool.or_self, b_addi, b_adds, b_addl, b_addt, b_sub, b_mul, b_div, b_mod, b_pow, c_eq, c_ne, c_lt, c_ltt, k_mn, nd_n, nd_b, nd_i, nd_s, nd_l, nd_t, nd_0, nd_c, c_le, c_gt, c_ge, c_is0, c_isi, c_iss, c_isl, c_ist, c_isb, c_no0, c_noi, c_nos, c_nol, c_not, c_nob, c_in, c_ni, u_n, u_b, u_i, u_s, u_l, u_t, f_lenl, f_lent, f_lens, f_ll, f_lt, f_tl, f_tt, f_int, f_bool, f_str, f_max2, f_min2, f_max, f_min, f_sum, f_sumt, l_s, c_les, g_ai, z_ll, z_lt, z_tl, z_tt, min_ints, min_t, mx_ints, mx_t, s_l, s_t, l_l, l_t, a_l, e_l, j_l, j_t, m_x, isn_i, isn_b, isn_s, isn_l, isn_t, isn_n, evb1, evb2, evc0, evc1, andB1, andB2, fl_n, fl_b, fl_i, fl_s, fl_t, fb_0, fb_i, fb_b, fb_s, b_rep, asBool_bool, n_10, Nat.reduceLT, tx_s, eqD_int, eqD_str, eqD_bool, eqD_nil_int, n_10, Nat.reduceLT, n_10, Nat.reduceLT, n_10, Nat.reduceLT, n_10, Nat.reduceLT, n_10, Nat.reduceLT, n_10, Nat.reduceLT, q_ev0, q_ev1, q_ev2, q_ev3, q_ev4, q_ev5, q_ev6, q_ev7, q_ev8, q_ev9, q_ev10, q_ev11, q_ev12, q_ev13, q_ev14, q_ev15, q_ev16, q_ev17, q_ev18, q_ev19, q_ev20, q_ev21, q_ev22, q_ev23, q_ev24, q_ev25, q_ev26, q_ev27, q_ev28, q_ev29, q_ev30, q_ev31, q_ev32, q_ev33, q_ev34, q_ev35, q_ev36, q_evs0, q_evs1, q_evo0, q_evo1, q_evw0, q_evw1, q_evw2, q_evw3, q_evw4, q_evw5, q_evw6, q_evw7, q_ex0, q_ex1, q_ex2, q_ex3, q_ex4, q_ex5, q_ex6, q_ex7, q_ex8, q_ex9, q_ex10, q_ex11, q_ex12, q_ex13, q_ex14, q_ex15, q_ex16, q_ex17, q_ex18, q_ex19, q_ex20, q_ex21, q_ex22, q_ex23, q_ex24, q_ex25, q_exs0, q_exs1, q_exs2, q_exs3, n_10, Nat.reduceLT, fn_rotated_0, fn_turn_print_0, fn_cut_print_0, fn_cut_print_1, gn_check_size_0, fn_join_prints_0, fn_join_prints_1, fn_work_and_turn_0, fn_work_and_turn_1, fn_work_and_tumble_0, fn_work_and_tumble_1, fn_printing_method_0, fn__law_same_0, fn__law_print_0, fn__law_print_1, fn__law_told_0, fn__law_told_1, fn__law_wider_0, fn_law_0, fn_law_1, fn_law_2, fn_law_3, fn_law_4, fn_law_5, fn_law_6, fn_law_7, fn_law_8, d_check_size, ir_check_size, ix_pr0, len_side, e, g1, len_row, g2, k1, k2]
theorem cs_big {n m : Nat} {f b : Sd} (hf : Rc n m f) (hn : 1 ≤ n) (h : 8 < n ∨ 8 < m) : d_check_size [prD (f, b)] = bigE := by
  obtain ⟨r, g1, g2⟩ := ix_side hf hn
  have e := hf.1
  by_cases k1 : (8 : Int) < (n : Int)
  · simp (implicitDefEqProofs := false) only [out_er, r_x, r_call, r_cv, r_ife, pick_c, isFn_fn, h_fld, h_var, h_non, h_bl, h_int, h_str, h_cmp, h_bo, h_nt, h_ife, h_ret, h_ifr, fld_1, cmpH_ss, cmpH_ii, par_2, par_3, f0_s, f0_i, eq_self, fl_all1, zip_1, Rs.toX_ok, Rs.toX_er, Rs.toX_st, Ot.catch_nx, Ot.catch_rt, Ot.catch_bk, Ot.catch_ct, Ot.catch_er, Ot.catch_st, Ot.then_er, Ot.turn_er, and_self, vl_v, ow_o, gt_zero, gt_succ, pt_zero, pt_succ, kil_nil, kil_cons, Rs.bind_ok, Rs.to_ok, Rs.calm_ok, Ot.then_nx, Ot.then_rt, Ot.then_bk, Ot.then_ct, Ot.turn_nx, Ot.turn_ct, Ot.turn_bk, Ot.turn_rt, chg, asInt_int, isOwn_v, isOwn_o, isOwn_none, g_nm, g_tp, g_n, g_c, List.map_cons, List.map_nil, List.length_cons, List.length_nil, List.cons_append, List.nil_append, List.replicate_succ, List.replicate_zero, Nat.reduceSub, Nat.reduceAdd, Nat.reduceLeDiff, Nat.le_refl, Nat.zero_le, Nat.sub_self, Nat.reduceEqDiff, if_true, if_false, ite_true, ite_false, Bool.false_eq_true, decide_true, decide_false, beq_self_eq_true, List.any_cons, List.any_nil, Bool.or_false, Bool.false_or, Bool.or_true, Bool.and_true, Bool.true_and, Bool.false_and, Bool.and_false, Bool.not_true, Bool.not_false, reduceIte, Int.reduceLT, Int.reduceLE, Int.reduceNeg, Int.reducePow, Int.reduceToNat, Int.reduceSub, Int.reduceAdd, Int.reduceMul, decide_eq_true_eq, Int.toNat_natCast, okR, run_eq, out_nx, out_rt, beqT, beqF, and_self, Bool.true_or, Bool.or_self, b_addi, b_adds, b_addl, b_addt, b_sub, b_mul, b_div, b_mod, b_pow, c_eq, c_ne, c_lt, c_ltt, k_mn, nd_n, nd_b, nd_i, nd_s, nd_l, nd_t, nd_0, nd_c, c_le, c_gt, c_ge, c_is0, c_isi, c_iss, c_isl, c_ist, c_isb, c_no0, c_noi, c_nos, c_nol, c_not, c_nob, c_in, c_ni, u_n, u_b, u_i, u_s, u_l, u_t, f_lenl, f_lent, f_lens, f_ll, f_lt, f_tl, f_tt, f_int, f_bool, f_str, f_max2, f_min2, f_max, f_min, f_sum, f_sumt, l_s, c_les, g_ai, z_ll, z_lt, z_tl, z_tt, min_ints, min_t, mx_ints, mx_t, s_l, s_t, l_l, l_t, a_l, e_l, j_l, j_t, m_x, isn_i, isn_b, isn_s, isn_l, isn_t, isn_n, evb1, evb2, evc0, evc1, andB1, andB2, fl_n, fl_b, fl_i, fl_s, fl_t, fb_0, fb_i, fb_b, fb_s, b_rep, asBool_bool, n_10, Nat.reduceLT, tx_s, eqD_int, eqD_str, eqD_bool, eqD_nil_int, n_10, Nat.reduceLT, n_10, Nat.reduceLT, n_10, Nat.reduceLT, n_10, Nat.reduceLT, n_10, Nat.reduceLT, n_10, Nat.reduceLT, q_ev0, q_ev1, q_ev2, q_ev3, q_ev4, q_ev5, q_ev6, q_ev7, q_ev8, q_ev9, q_ev10, q_ev11, q_ev12, q_ev13, q_ev14, q_ev15, q_ev16, q_ev17, q_ev18, q_ev19, q_ev20, q_ev21, q_ev22, q_ev23, q_ev24, q_ev25, q_ev26, q_ev27, q_ev28, q_ev29, q_ev30, q_ev31, q_ev32, q_ev33, q_ev34, q_ev35, q_ev36, q_evs0, q_evs1, q_evo0, q_evo1, q_evw0, q_evw1, q_evw2, q_evw3, q_evw4, q_evw5, q_evw6, q_evw7, q_ex0, q_ex1, q_ex2, q_ex3, q_ex4, q_ex5, q_ex6, q_ex7, q_ex8, q_ex9, q_ex10, q_ex11, q_ex12, q_ex13, q_ex14, q_ex15, q_ex16, q_ex17, q_ex18, q_ex19, q_ex20, q_ex21, q_ex22, q_ex23, q_ex24, q_ex25, q_exs0, q_exs1, q_exs2, q_exs3, n_10, Nat.reduceLT, fn_rotated_0, fn_turn_print_0, fn_cut_print_0, fn_cut_print_1, gn_check_size_0, fn_join_prints_0, fn_join_prints_1, fn_work_and_turn_0, fn_work_and_turn_1, fn_work_and_tumble_0, fn_work_and_tumble_1, fn_printing_method_0, fn__law_same_0, fn__law_print_0, fn__law_print_1, fn__law_told_0, fn__law_told_1, fn__law_wider_0, fn_law_0, fn_law_1, fn_law_2, fn_law_3, fn_law_4, fn_law_5, fn_law_6, fn_law_7, fn_law_8, d_check_size, ir_check_size, ix_pr0, len_side, e, g1, len_row, g2, k1]
  · have k2 : (8 : Int) < (m : Int) := by omega
    simp (implicitDefEqProofs := false) only [out_er, r_x, r_call, r_cv, r_ife, pick_c, isFn_fn, h_fld, h_var, h_non, h_bl, h_int, h_str, h_cmp, h_bo, h_nt, h_ife, h_ret, h_ifr, fld_1, cmpH_ss, cmpH_ii, par_2, par_3, f0_s, f0_i, eq_self, fl_all1, zip_1, Rs.toX_ok, Rs.toX_er, Rs.toX_st, Ot.catch_nx, Ot.catch_rt, Ot.catch_bk, Ot.catch_ct, Ot.catch_er, Ot.catch_st, Ot.then_er, Ot.turn_er, and_self, vl_v, ow_o, gt_zero, gt_succ, pt_zero, pt_succ, kil_nil, kil_cons, Rs.bind_ok, Rs.to_ok, Rs.calm_ok, Ot.then_nx, Ot.then_rt, Ot.then_bk, Ot.then_ct, Ot.turn_nx, Ot.turn_ct, Ot.turn_bk, Ot.turn_rt, chg, asInt_int, isOwn_v, isOwn_o, isOwn_none, g_nm, g_tp, g_n, g_c, List.map_cons, List.map_nil, List.length_cons, List.length_nil, List.cons_append, List.nil_append, List.replicate_succ, List.replicate_zero, Nat.reduceSub, Nat.reduceAdd, Nat.reduceLeDiff, Nat.le_refl, Nat.zero_le, Nat.sub_self, Nat.reduceEqDiff, if_true, if_false, ite_true, ite_false, Bool.false_eq_true, decide_true, decide_false, beq_self_eq_true, List.any_cons, List.any_nil, Bool.or_false, Bool.false_or, Bool.or_true, Bool.and_true, Bool.true_and, Bool.false_and, Bool.and_false, Bool.not_true, Bool.not_false, reduceIte, Int.reduceLT, Int.reduceLE, Int.reduceNeg, Int.reducePow, Int.reduceToNat, Int.reduceSub, Int.reduceAdd, Int.reduceMul, decide_eq_true_eq, Int.toNat_natCast, okR, run_eq, out_nx, out_rt, beqT, beqF, and_self, Bool.true_or, Bool.or_self, b_addi, b_adds, b_addl, b_addt, b_sub, b_mul, b_div, b_mod, b_pow, c_eq, c_ne, c_lt, c_ltt, k_mn, nd_n, nd_b, nd_i, nd_s, nd_l, nd_t, nd_0, nd_c, c_le, c_gt, c_ge, c_is0, c_isi, c_iss, c_isl, c_ist, c_isb, c_no0, c_noi, c_nos, c_nol, c_not, c_nob, c_in, c_ni, u_n, u_b, u_i, u_s, u_l, u_t, f_lenl, f_lent, f_lens, f_ll, f_lt, f_tl, f_tt, f_int, f_bool, f_str, f_max2, f_min2, f_max, f_min, f_sum, f_sumt, l_s, c_les, g_ai, z_ll, z_lt, z_tl, z_tt, min_ints, min_t, mx_ints, mx_t, s_l, s_t, l_l, l_t, a_l, e_l, j_l, j_t, m_x, isn_i, isn_b, isn_s, isn_l, isn_t, isn_n, evb1, evb2, evc0, evc1, andB1, andB2, fl_n, fl_b, fl_i, fl_s, fl_t, fb_0, fb_i, fb_b, fb_s, b_rep, asBool_bool, n_10, Nat.reduceLT, tx_s, eqD_int, eqD_str, eqD_bool, eqD_nil_int, n_10, Nat.reduceLT, n_10, Nat.reduceLT, n_10, Nat.reduceLT, n_10, Nat.reduceLT, n_10, Nat.reduceLT, n_10, Nat.reduceLT, q_ev0, q_ev1, q_ev2, q_ev3, q_ev4, q_ev5, q_ev6, q_ev7, q_ev8, q_ev9, q_ev10, q_ev11, q_ev12, q_ev13, q_ev14, q_ev15, q_ev16, q_ev17, q_ev18, q_ev19, q_ev20, q_ev21, q_ev22, q_ev23, q_ev24, q_ev25, q_ev26, q_ev27, q_ev28, q_ev29, q_ev30, q_ev31, q_ev32, q_ev33, q_ev34, q_ev35, q_ev36, q_evs0, q_evs1, q_evo0, q_evo1, q_evw0, q_evw1, q_evw2, q_evw3, q_evw4, q_evw5, q_evw6, q_evw7, q_ex0, q_ex1, q_ex2, q_ex3, q_ex4, q_ex5, q_ex6, q_ex7, q_ex8, q_ex9, q_ex10, q_ex11, q_ex12, q_ex13, q_ex14, q_ex15, q_ex16, q_ex17, q_ex18, q_ex19, q_ex20, q_ex21, q_ex22, q_ex23, q_ex24, q_ex25, q_exs0, q_exs1, q_exs2, q_exs3, n_10, Nat.reduceLT, fn_rotated_0, fn_turn_print_0, fn_cut_print_0, fn_cut_print_1, gn_check_size_0, fn_join_prints_0, fn_join_prints_1, fn_work_and_turn_0, fn_work_and_turn_1, fn_work_and_tumble_0, fn_work_and_tumble_1, fn_printing_method_0, fn__law_same_0, fn__law_print_0, fn__law_print_1, fn__law_told_0, fn__law_told_1, fn__law_wider_0, fn_law_0, fn_law_1, fn_law_2, fn_law_3, fn_law_4, fn_law_5, fn_law_6, fn_law_7, fn_law_8, d_check_size, ir_check_size, ix_pr0, len_side, e, g1, len_row, g2, k1, k2]
end
end Bk
namespace Bk
open PySem PySem.Spec PyProof.Rows L2
theorem cut_n {α : Type} (r : List α) {a c : Nat} (ha : a ≤ r.length) (hc : c ≤ r.length) : cut r (some (a : Int)) (some (c : Int)) = (r.drop a).take (c - a) := by
  have h1 : ¬ ((a : Int) < 0) := by omega
  have h2 : ¬ ((c : Int) < 0) := by omega
  unfold cut bnd
  simp only [h1, h2, if_false, Int.toNat_natCast, Nat.min_eq_left ha, Nat.min_eq_left hc]
theorem cut_lo {α : Type} (r : List α) (hi : Option Int) : cut r none hi = cut r (some 0) hi := by
  unfold cut bnd
  simp
theorem cut_hi {α : Type} (r : List α) (lo : Option Int) : cut r lo none = cut r lo (some (r.length : Int)) := by
  have h1 : ¬ ((r.length : Int) < 0) := by omega
  unfold cut bnd
  simp [h1]
theorem cut_cat {α : Type} (r : List α) {a : Nat} (ha : a ≤ r.length) : cut r (some 0) (some (a : Int)) ++ cut r (some (a : Int)) (some (r.length : Int)) = r := by
  have e0 : cut r (some 0) (some (a : Int)) = (r.drop 0).take (a - 0) := cut_n r (a := 0) (Nat.zero_le _) ha
  rw [e0, cut_n r ha (Nat.le_refl _), List.drop_zero, Nat.sub_zero, List.take_of_length_le (l := List.drop a r) (by rw [List.length_drop]; exact Nat.le_refl _), List.take_append_drop]
theorem cut_len {α : Type} (r : List α) {a c : Nat} (ha : a ≤ c) (hc : c ≤ r.length) : (cut r (some (a : Int)) (some (c : Int))).length = c - a := by
  rw [cut_n r (by omega) hc, List.length_take, List.length_drop]
  omega
theorem cc_rc {n m : Nat} {s : Sd} (h : Rc n m s) {a c : Nat} (ha : a ≤ c) (hc : c ≤ m) : Rc n (c - a) (cc s (some (a : Int)) (some (c : Int))) := by
  refine ⟨by rw [cc, List.length_map]; exact h.1, fun r hr => ?_⟩
  obtain ⟨q, hq, rfl⟩ := List.mem_map.mp hr
  exact cut_len q ha (by rw [h.2 q hq]; exact hc)
theorem cut_rc {n m : Nat} {s : Sd} (h : Rc n m s) {a c : Nat} (ha : a ≤ c) (hc : c ≤ n) : Rc (c - a) m (cut s (some (a : Int)) (some (c : Int))) := by
  refine ⟨cut_len s ha (by rw [h.1]; exact hc), fun r hr => h.2 r ?_⟩
  rw [cut_n s (by rw [h.1]; omega) (by rw [h.1]; exact hc)] at hr
  exact List.mem_of_mem_drop (List.mem_of_mem_take hr)
theorem zipW_len {m k : Nat} : ∀ {s t : Sd}, (∀ r ∈ s, r.length = m) → (∀ r ∈ t, r.length = k) → ∀ r ∈ List.zipWith (· ++ ·) s t, r.length = m + k
  | [], t, _, _, r, h => by cases t <;> cases h
  | _ :: _, [], _, _, r, h => by cases h
  | x :: s, y :: t, h1, h2, r, h => by
    rw [List.zipWith_cons_cons] at h
    rcases List.mem_cons.mp h with rfl | h
    · rw [List.length_append, h1 x List.mem_cons_self, h2 y List.mem_cons_self]
    · exact zipW_len (fun r hr => h1 r (List.mem_cons_of_mem _ hr)) (fun r hr => h2 r (List.mem_cons_of_mem _ hr)) r h
theorem catC_rc {n m k : Nat} {s t : Sd} (h : Rc n m s) (g : Rc n k t) : Rc n (m + k) (catC s t) := by
  refine ⟨by rw [catC, List.length_zipWith, h.1, g.1, Nat.min_self], fun r hr => zipW_len h.2 g.2 r hr⟩
theorem app_rc {n m k : Nat} {s t : Sd} (h : Rc n m s) (g : Rc k m t) : Rc (n + k) m (s ++ t) :=
  ⟨by rw [List.length_append, h.1, g.1], fun r hr => (List.mem_append.mp hr).elim (h.2 r) (g.2 r)⟩
theorem rc_sh {n m : Nat} {s : Sd} (h : Rc n m s) (hn : n ≤ 1000) (hm : m ≤ 1000) : Sh s := ⟨by rw [h.1]; exact hn, fun r hr => by rw [h.2 r hr]; exact hm⟩
theorem catC_cc {n m : Nat} {s : Sd} (h : Rc n m s) {a : Nat} (ha : a ≤ m) : catC (cc s (some 0) (some (a : Int))) (cc s (some (a : Int)) (some (m : Int))) = s := by
  have h2 := h.2
  clear h
  unfold catC cc
  rw [List.zipWith_map_left, List.zipWith_map_right]
  induction s with
  | nil => rfl
  | cons r s ih =>
    have e := h2 r List.mem_cons_self
    rw [List.zipWith_cons_cons, ih fun q hq => h2 q (List.mem_cons_of_mem _ hq)]
    congr 1
    have z := cut_cat r (a := a) (by rw [e]; exact ha)
    rw [e] at z
    exact z
theorem app_cut {n m : Nat} {s : Sd} (h : Rc n m s) {a : Nat} (ha : a ≤ n) : cut s (some 0) (some (a : Int)) ++ cut s (some (a : Int)) (some (n : Int)) = s := by
  have z := cut_cat s (a := a) (by rw [h.1]; exact ha)
  rw [h.1] at z
  exact z
/-! ### join_prints as the law asks it -/
abbrev difS : D := .str "prints differ in size"
abbrev bigS : D := .str "print is too large"
section
variable {n n2 m m2 : Nat} {f b f2 b2 : Sd}
end
end Bk
namespace Bk
open PySem PySem.Spec PyProof.Rows L2
/-! ### cut as the law tells it -/
section
variable {n m : Nat} {f b : Sd}
end
/-! ### two prints alike -/
theorem eqD_two (p q : Sd × Sd) : eqD (.tuple [prD p, prD q]) (.tuple [prD p, prD q]) = .ok true := by
  have e : shp 12 (.tuple [prD p, prD q]) = true := by
    simp only [shp, List.all_cons, List.all_nil, pr_shp 7, Bool.and_self]
  unfold eqD
  rw [e]
  simp [PyData.eqv, PyData.eqvAll, pr_eqv]
theorem eqD_prs (p : Sd × Sd) (x : Str) : eqD (prD p) (.str x) = .ok false := by
  unfold eqD
  rw [pr_shp 8]
  rfl
theorem catC_l {n m k : Nat} {s t : Sd} (h : Rc n m s) (g : Rc n k t) : cc (catC s t) (some 0) (some (m : Int)) = s := by
  have key : ∀ {s t : Sd}, s.length = t.length → (∀ r ∈ s, r.length = m) → cc (catC s t) (some 0) (some (m : Int)) = s := fun {s} => by
    induction s with
    | nil => intro t _ _; cases t <;> rfl
    | cons x s ih =>
      intro t hl h2
      cases t with
      | nil => cases hl
      | cons y t =>
        have z := ih (t := t) (by simpa using hl) fun r hr => h2 r (List.mem_cons_of_mem _ hr)
        unfold cc catC at z ⊢
        rw [List.zipWith_cons_cons, List.map_cons, z]
        congr 1
        have e := h2 x List.mem_cons_self
        have c := cut_n (x ++ y) (a := 0) (c := m) (Nat.zero_le _) (by rw [List.length_append]; omega)
        rw [show ((0 : Nat) : Int) = 0 from rfl] at c
        rw [c, List.drop_zero, Nat.sub_zero, ← e, List.take_left']
        rfl
  exact key (by rw [h.1, g.1]) h.2
theorem catC_r {n m k : Nat} {s t : Sd} (h : Rc n m s) (g : Rc n k t) : cc (catC s t) (some (m : Int)) (some ((m + k : Nat) : Int)) = t := by
  have key : ∀ {s t : Sd}, s.length = t.length → (∀ r ∈ s, r.length = m) → (∀ r ∈ t, r.length = k) → cc (catC s t) (some (m : Int)) (some ((m + k : Nat) : Int)) = t := fun {s} => by
    induction s with
    | nil => intro t hl _ _; cases t with
      | nil => rfl
      | cons _ _ => cases hl
    | cons x s ih =>
      intro t hl h2 h3
      cases t with
      | nil => cases hl
      | cons y t =>
        have z := ih (t := t) (by simpa using hl) (fun r hr => h2 r (List.mem_cons_of_mem _ hr)) fun r hr => h3 r (List.mem_cons_of_mem _ hr)
        unfold cc catC at z ⊢
        rw [List.zipWith_cons_cons, List.map_cons, z]
        congr 1
        have e := h2 x List.mem_cons_self
        have e2 := h3 y List.mem_cons_self
        rw [cut_n (x ++ y) (a := m) (c := m + k) (by rw [List.length_append]; omega) (by rw [List.length_append]; omega), ← e, List.drop_left', List.take_of_length_le (by omega)]
        rfl
  exact key (by rw [h.1, g.1]) h.2 g.2
theorem app_l {n k m : Nat} {s t : Sd} (h : Rc n m s) (g : Rc k m t) : cut (s ++ t) (some 0) (some (n : Int)) = s := by
  have c := cut_n (s ++ t) (a := 0) (c := n) (Nat.zero_le _) (by rw [List.length_append, h.1]; omega)
  rw [show ((0 : Nat) : Int) = 0 from rfl] at c
  rw [c, List.drop_zero, Nat.sub_zero, ← h.1, List.take_left']
  rfl
theorem app_r {n k m : Nat} {s t : Sd} (h : Rc n m s) (g : Rc k m t) : cut (s ++ t) (some (n : Int)) (some ((n + k : Nat) : Int)) = t := by
  rw [cut_n (s ++ t) (by rw [List.length_append, h.1]; omega) (by rw [List.length_append, h.1, g.1]; omega), ← h.1, List.drop_left', List.take_of_length_le (by rw [g.1]; omega)]
  rfl
end Bk
namespace Bk
open PySem PySem.Spec PyProof.Rows L2
def takeS : Nat → Sms → Sms
  | 0, _ => .nil
  | n + 1, .cons s r => .cons s (takeS n r)
  | _, s => s
def dropS : Nat → Sms → Sms
  | 0, s => s
  | n + 1, .cons _ r => dropS n r
  | _, _ => .nil
theorem exs_nil (C : Cn) (e : Vn) : exs C .nil e = .nx e := by simp only [exs]
theorem exs_cons (C : Cn) (s : Sm) (r : Sms) (e : Vn) : exs C (.cons s r) e = (ex C s e).then (exs C r) := by simp only [exs]
def plainS : Nat → Sms → Bool
  | 0, _ => true
  | n + 1, .cons _ r => plainS n r
  | _, _ => false
theorem exs_cut (C : Cn) : ∀ (n : Nat) (s : Sms) (e : Vn), plainS n s = true → exs C s e = (exs C (takeS n s) e).then (exs C (dropS n s))
  | 0, s, e, _ => by rw [takeS, dropS, exs_nil, Ot.then_nx]
  | n + 1, .cons s r, e, h => by
    rw [takeS, dropS, exs_cons, exs_cons]
    cases ex C s e with
    | nx e' => exact exs_cut C n r e' h
    | _ => rfl
  | _ + 1, .nil, _, h => by cases h
  | _ + 1, .frz _ _, _, h => by cases h
  | _ + 1, .kill _ _, _, h => by cases h
section
variable {s : D} {n n2 m m2 : Nat} {f b f2 b2 : Sd} {edge : Str} {line count : Int} {x7 x8 x9 x10 : Option Sl}
end
end Bk
namespace Bk
open PySem PySem.Spec PyProof.Rows L2
/-! ### join_prints -/
section
variable {n n2 m m2 : Nat} {f b f2 b2 : Sd}
theorem jp_v (h1 : Rc n m f) (h2 : Rc n m b) (h3 : Rc n m2 f2) (h4 : Rc n m2 b2) (hn : 1 ≤ n) (k1 : n ≤ 1000) (k2 : m ≤ 1000) (k3 : m2 ≤ 1000) :
    d_join_prints [prD (f, b), prD (f2, b2), .str "vertical"] = if n ≤ 8 ∧ m + m2 ≤ 8 then .ok (prD (catC f f2, catC b2 b)) else bigE := by
  have j := jn_v (rc_sh h1 k1 k2) (rc_sh h2 k1 k2) (rc_sh h3 k1 k3) (rc_sh h4 k1 k3)
  have e1 := h1.1
  have e2 := h3.1
  have rc := catC_rc h1 h3
  have vh : ¬ (("vertical" : Str) = "horizontal") := by decide
  by_cases hk : n ≤ 8 ∧ m + m2 ≤ 8
  · have c := cs_ok (b := catC b2 b) rc hn hk.1 hk.2
    simp (implicitDefEqProofs := false) only [out_er, r_x, r_call, r_cv, r_ife, pick_c, isFn_fn, h_fld, h_var, h_non, h_bl, h_int, h_str, h_cmp, h_bo, h_nt, h_ife, h_ret, h_ifr, fld_1, cmpH_ss, cmpH_ii, par_2, par_3, f0_s, f0_i, eq_self, fl_all1, zip_1, Rs.toX_ok, Rs.toX_er, Rs.toX_st, Ot.catch_nx, Ot.catch_rt, Ot.catch_bk, Ot.catch_ct, Ot.catch_er, Ot.catch_st, Ot.then_er, Ot.turn_er, and_self, vl_v, ow_o, gt_zero, gt_succ, pt_zero, pt_succ, kil_nil, kil_cons, Rs.bind_ok, Rs.to_ok, Rs.calm_ok, Ot.then_nx, Ot.then_rt, Ot.then_bk, Ot.then_ct, Ot.turn_nx, Ot.turn_ct, Ot.turn_bk, Ot.turn_rt, chg, asInt_int, isOwn_v, isOwn_o, isOwn_none, g_nm, g_tp, g_n, g_c, List.map_cons, List.map_nil, List.length_cons, List.length_nil, List.cons_append, List.nil_append, List.replicate_succ, List.replicate_zero, Nat.reduceSub, Nat.reduceAdd, Nat.reduceLeDiff, Nat.le_refl, Nat.zero_le, Nat.sub_self, Nat.reduceEqDiff, if_true, if_false, ite_true, ite_false, Bool.false_eq_true, decide_true, decide_false, beq_self_eq_true, List.any_cons, List.any_nil, Bool.or_false, Bool.false_or, Bool.or_true, Bool.and_true, Bool.true_and, Bool.false_and, Bool.and_false, Bool.not_true, Bool.not_false, reduceIte, Int.reduceLT, Int.reduceLE, Int.reduceNeg, Int.reducePow, Int.reduceToNat, Int.reduceSub, Int.reduceAdd, Int.reduceMul, decide_eq_true_eq, Int.toNat_natCast, okR, run_eq, out_nx, out_rt, beqT, beqF, and_self, Bool.true_or, Bool.or_self, b_addi, b_adds, b_addl, b_addt, b_sub, b_mul, b_div, b_mod, b_pow, c_eq, c_ne, c_lt, c_ltt, k_mn, nd_n, nd_b, nd_i, nd_s, nd_l, nd_t, nd_0, nd_c, c_le, c_gt, c_ge, c_is0, c_isi, c_iss, c_isl, c_ist, c_isb, c_no0, c_noi, c_nos, c_nol, c_not, c_nob, c_in, c_ni, u_n, u_b, u_i, u_s, u_l, u_t, f_lenl, f_lent, f_lens, f_ll, f_lt, f_tl, f_tt, f_int, f_bool, f_str, f_max2, f_min2, f_max, f_min, f_sum, f_sumt, l_s, c_les, g_ai, z_ll, z_lt, z_tl, z_tt, min_ints, min_t, mx_ints, mx_t, s_l, s_t, l_l, l_t, a_l, e_l, j_l, j_t, m_x, isn_i, isn_b, isn_s, isn_l, isn_t, isn_n, evb1, evb2, evc0, evc1, andB1, andB2, fl_n, fl_b, fl_i, fl_s, fl_t, fb_0, fb_i, fb_b, fb_s, b_rep, asBool_bool, n_10, Nat.reduceLT, tx_s, eqD_int, eqD_str, eqD_bool, eqD_nil_int, n_10, Nat.reduceLT, n_10, Nat.reduceLT, n_10, Nat.reduceLT, n_10, Nat.reduceLT, n_10, Nat.reduceLT, n_10, Nat.reduceLT, q_ev0, q_ev1, q_ev2, q_ev3, q_ev4, q_ev5, q_ev6, q_ev7, q_ev8, q_ev9, q_ev10, q_ev11, q_ev12, q_ev13, q_ev14, q_ev15, q_ev16, q_ev17, q_ev18, q_ev19, q_ev20, q_ev21, q_ev22, q_ev23, q_ev24, q_ev25, q_ev26, q_ev27, q_ev28, q_ev29, q_ev30, q_ev31, q_ev32, q_ev33, q_ev34, q_ev35, q_ev36, q_evs0, q_evs1, q_evo0, q_evo1, q_evw0, q_evw1, q_evw2, q_evw3, q_evw4, q_evw5, q_evw6, q_evw7, q_ex0, q_ex1, q_ex2, q_ex3, q_ex4, q_ex5, q_ex6, q_ex7, q_ex8, q_ex9, q_ex10, q_ex11, q_ex12, q_ex13, q_ex14, q_ex15, q_ex16, q_ex17, q_ex18, q_ex19, q_ex20, q_ex21, q_ex22, q_ex23, q_ex24, q_ex25, q_exs0, q_exs1, q_exs2, q_exs3, n_10, Nat.reduceLT, fn_rotated_0, fn_turn_print_0, fn_cut_print_0, fn_cut_print_1, gn_check_size_0, fn_join_prints_0, fn_join_prints_1, fn_work_and_turn_0, fn_work_and_turn_1, fn_work_and_tumble_0, fn_work_and_tumble_1, fn_printing_method_0, fn__law_same_0, fn__law_print_0, fn__law_print_1, fn__law_told_0, fn__law_told_1, fn__law_wider_0, fn_law_0, fn_law_1, fn_law_2, fn_law_3, fn_law_4, fn_law_5, fn_law_6, fn_law_7, fn_law_8, d_join_prints, ir_join_prints, ix_pr0, len_side, e1, e2, j, c, vh, hk]
  · have c := cs_big (b := catC b2 b) rc hn (by omega)
    simp (implicitDefEqProofs := false) only [out_er, r_x, r_call, r_cv, r_ife, pick_c, isFn_fn, h_fld, h_var, h_non, h_bl, h_int, h_str, h_cmp, h_bo, h_nt, h_ife, h_ret, h_ifr, fld_1, cmpH_ss, cmpH_ii, par_2, par_3, f0_s, f0_i, eq_self, fl_all1, zip_1, Rs.toX_ok, Rs.toX_er, Rs.toX_st, Ot.catch_nx, Ot.catch_rt, Ot.catch_bk, Ot.catch_ct, Ot.catch_er, Ot.catch_st, Ot.then_er, Ot.turn_er, and_self, vl_v, ow_o, gt_zero, gt_succ, pt_zero, pt_succ, kil_nil, kil_cons, Rs.bind_ok, Rs.to_ok, Rs.calm_ok, Ot.then_nx, Ot.then_rt, Ot.then_bk, Ot.then_ct, Ot.turn_nx, Ot.turn_ct, Ot.turn_bk, Ot.turn_rt, chg, asInt_int, isOwn_v, isOwn_o, isOwn_none, g_nm, g_tp, g_n, g_c, List.map_cons, List.map_nil, List.length_cons, List.length_nil, List.cons_append, List.nil_append, List.replicate_succ, List.replicate_zero, Nat.reduceSub, Nat.reduceAdd, Nat.reduceLeDiff, Nat.le_refl, Nat.zero_le, Nat.sub_self, Nat.reduceEqDiff, if_true, if_false, ite_true, ite_false, Bool.false_eq_true, decide_true, decide_false, beq_self_eq_true, List.any_cons, List.any_nil, Bool.or_false, Bool.false_or, Bool.or_true, Bool.and_true, Bool.true_and, Bool.false_and, Bool.and_false, Bool.not_true, Bool.not_false, reduceIte, Int.reduceLT, Int.reduceLE, Int.reduceNeg, Int.reducePow, Int.reduceToNat, Int.reduceSub, Int.reduceAdd, Int.reduceMul, decide_eq_true_eq, Int.toNat_natCast, okR, run_eq, out_nx, out_rt, beqT, beqF, and_self, Bool.true_or, Bool.or_self, b_addi, b_adds, b_addl, b_addt, b_sub, b_mul, b_div, b_mod, b_pow, c_eq, c_ne, c_lt, c_ltt, k_mn, nd_n, nd_b, nd_i, nd_s, nd_l, nd_t, nd_0, nd_c, c_le, c_gt, c_ge, c_is0, c_isi, c_iss, c_isl, c_ist, c_isb, c_no0, c_noi, c_nos, c_nol, c_not, c_nob, c_in, c_ni, u_n, u_b, u_i, u_s, u_l, u_t, f_lenl, f_lent, f_lens, f_ll, f_lt, f_tl, f_tt, f_int, f_bool, f_str, f_max2, f_min2, f_max, f_min, f_sum, f_sumt, l_s, c_les, g_ai, z_ll, z_lt, z_tl, z_tt, min_ints, min_t, mx_ints, mx_t, s_l, s_t, l_l, l_t, a_l, e_l, j_l, j_t, m_x, isn_i, isn_b, isn_s, isn_l, isn_t, isn_n, evb1, evb2, evc0, evc1, andB1, andB2, fl_n, fl_b, fl_i, fl_s, fl_t, fb_0, fb_i, fb_b, fb_s, b_rep, asBool_bool, n_10, Nat.reduceLT, tx_s, eqD_int, eqD_str, eqD_bool, eqD_nil_int, n_10, Nat.reduceLT, n_10, Nat.reduceLT, n_10, Nat.reduceLT, n_10, Nat.reduceLT, n_10, Nat.reduceLT, n_10, Nat.reduceLT, q_ev0, q_ev1, q_ev2, q_ev3, q_ev4, q_ev5, q_ev6, q_ev7, q_ev8, q_ev9, q_ev10, q_ev11, q_ev12, q_ev13, q_ev14, q_ev15, q_ev16, q_ev17, q_ev18, q_ev19, q_ev20, q_ev21, q_ev22, q_ev23, q_ev24, q_ev25, q_ev26, q_ev27, q_ev28, q_ev29, q_ev30, q_ev31, q_ev32, q_ev33, q_ev34, q_ev35, q_ev36, q_evs0, q_evs1, q_evo0, q_evo1, q_evw0, q_evw1, q_evw2, q_evw3, q_evw4, q_evw5, q_evw6, q_evw7, q_ex0, q_ex1, q_ex2, q_ex3, q_ex4, q_ex5, q_ex6, q_ex7, q_ex8, q_ex9, q_ex10, q_ex11, q_ex12, q_ex13, q_ex14, q_ex15, q_ex16, q_ex17, q_ex18, q_ex19, q_ex20, q_ex21, q_ex22, q_ex23, q_ex24, q_ex25, q_exs0, q_exs1, q_exs2, q_exs3, n_10, Nat.reduceLT, fn_rotated_0, fn_turn_print_0, fn_cut_print_0, fn_cut_print_1, gn_check_size_0, fn_join_prints_0, fn_join_prints_1, fn_work_and_turn_0, fn_work_and_turn_1, fn_work_and_tumble_0, fn_work_and_tumble_1, fn_printing_method_0, fn__law_same_0, fn__law_print_0, fn__law_print_1, fn__law_told_0, fn__law_told_1, fn__law_wider_0, fn_law_0, fn_law_1, fn_law_2, fn_law_3, fn_law_4, fn_law_5, fn_law_6, fn_law_7, fn_law_8, d_join_prints, ir_join_prints, ix_pr0, len_side, e1, e2, j, c, vh, hk]
theorem jp_h (h1 : Rc n m f) (h2 : Rc n m b) (h3 : Rc n2 m f2) (h4 : Rc n2 m b2) (hn : 1 ≤ n) (hn2 : 1 ≤ n2) (k1 : n ≤ 1000) (k2 : m ≤ 1000) (k3 : n2 ≤ 1000) :
    d_join_prints [prD (f, b), prD (f2, b2), .str "horizontal"] = if n + n2 ≤ 8 ∧ m ≤ 8 then .ok (prD (f ++ f2, b ++ b2)) else bigE := by
  have j := jn_h (rc_sh h1 k1 k2) (rc_sh h2 k1 k2) (rc_sh h3 k3 k2) (rc_sh h4 k3 k2)
  obtain ⟨r1, g1, l1⟩ := ix_side h1 hn
  obtain ⟨r2, g2, l2⟩ := ix_side h3 hn2
  have rc := app_rc h1 h3
  by_cases hk : n + n2 ≤ 8 ∧ m ≤ 8
  · have c := cs_ok (b := b ++ b2) rc (by omega) hk.1 hk.2
    simp (implicitDefEqProofs := false) only [out_er, r_x, r_call, r_cv, r_ife, pick_c, isFn_fn, h_fld, h_var, h_non, h_bl, h_int, h_str, h_cmp, h_bo, h_nt, h_ife, h_ret, h_ifr, fld_1, cmpH_ss, cmpH_ii, par_2, par_3, f0_s, f0_i, eq_self, fl_all1, zip_1, Rs.toX_ok, Rs.toX_er, Rs.toX_st, Ot.catch_nx, Ot.catch_rt, Ot.catch_bk, Ot.catch_ct, Ot.catch_er, Ot.catch_st, Ot.then_er, Ot.turn_er, and_self, vl_v, ow_o, gt_zero, gt_succ, pt_zero, pt_succ, kil_nil, kil_cons, Rs.bind_ok, Rs.to_ok, Rs.calm_ok, Ot.then_nx, Ot.then_rt, Ot.then_bk, Ot.then_ct, Ot.turn_nx, Ot.turn_ct, Ot.turn_bk, Ot.turn_rt, chg, asInt_int, isOwn_v, isOwn_o, isOwn_none, g_nm, g_tp, g_n, g_c, List.map_cons, List.map_nil, List.length_cons, List.length_nil, List.cons_append, List.nil_append, List.replicate_succ, List.replicate_zero, Nat.reduceSub, Nat.reduceAdd, Nat.reduceLeDiff, Nat.le_refl, Nat.zero_le, Nat.sub_self, Nat.reduceEqDiff, if_true, if_false, ite_true, ite_false, Bool.false_eq_true, decide_true, decide_false, beq_self_eq_true, List.any_cons, List.any_nil, Bool.or_false, Bool.false_or, Bool.or_true, Bool.and_true, Bool.true_and, Bool.false_and, Bool.and_false, Bool.not_true, Bool.not_false, reduceIte, Int.reduceLT, Int.reduceLE, Int.reduceNeg, Int.reducePow, Int.reduceToNat, Int.reduceSub, Int.reduceAdd, Int.reduceMul, decide_eq_true_eq, Int.toNat_natCast, okR, run_eq, out_nx, out_rt, beqT, beqF, and_self, Bool.true_or, Bool.or_self, b_addi, b_adds, b_addl, b_addt, b_sub, b_mul, b_div, b_mod, b_pow, c_eq, c_ne, c_lt, c_ltt, k_mn, nd_n, nd_b, nd_i, nd_s, nd_l, nd_t, nd_0, nd_c, c_le, c_gt, c_ge, c_is0, c_isi, c_iss, c_isl, c_ist, c_isb, c_no0, c_noi, c_nos, c_nol, c_not, c_nob, c_in, c_ni, u_n, u_b, u_i, u_s, u_l, u_t, f_lenl, f_lent, f_lens, f_ll, f_lt, f_tl, f_tt, f_int, f_bool, f_str, f_max2, f_min2, f_max, f_min, f_sum, f_sumt, l_s, c_les, g_ai, z_ll, z_lt, z_tl, z_tt, min_ints, min_t, mx_ints, mx_t, s_l, s_t, l_l, l_t, a_l, e_l, j_l, j_t, m_x, isn_i, isn_b, isn_s, isn_l, isn_t, isn_n, evb1, evb2, evc0, evc1, andB1, andB2, fl_n, fl_b, fl_i, fl_s, fl_t, fb_0, fb_i, fb_b, fb_s, b_rep, asBool_bool, n_10, Nat.reduceLT, tx_s, eqD_int, eqD_str, eqD_bool, eqD_nil_int, n_10, Nat.reduceLT, n_10, Nat.reduceLT, n_10, Nat.reduceLT, n_10, Nat.reduceLT, n_10, Nat.reduceLT, n_10, Nat.reduceLT, q_ev0, q_ev1, q_ev2, q_ev3, q_ev4, q_ev5, q_ev6, q_ev7, q_ev8, q_ev9, q_ev10, q_ev11, q_ev12, q_ev13, q_ev14, q_ev15, q_ev16, q_ev17, q_ev18, q_ev19, q_ev20, q_ev21, q_ev22, q_ev23, q_ev24, q_ev25, q_ev26, q_ev27, q_ev28, q_ev29, q_ev30, q_ev31, q_ev32, q_ev33, q_ev34, q_ev35, q_ev36, q_evs0, q_evs1, q_evo0, q_evo1, q_evw0, q_evw1, q_evw2, q_evw3, q_evw4, q_evw5, q_evw6, q_evw7, q_ex0, q_ex1, q_ex2, q_ex3, q_ex4, q_ex5, q_ex6, q_ex7, q_ex8, q_ex9, q_ex10, q_ex11, q_ex12, q_ex13, q_ex14, q_ex15, q_ex16, q_ex17, q_ex18, q_ex19, q_ex20, q_ex21, q_ex22, q_ex23, q_ex24, q_ex25, q_exs0, q_exs1, q_exs2, q_exs3, n_10, Nat.reduceLT, fn_rotated_0, fn_turn_print_0, fn_cut_print_0, fn_cut_print_1, gn_check_size_0, fn_join_prints_0, fn_join_prints_1, fn_work_and_turn_0, fn_work_and_turn_1, fn_work_and_tumble_0, fn_work_and_tumble_1, fn_printing_method_0, fn__law_same_0, fn__law_print_0, fn__law_print_1, fn__law_told_0, fn__law_told_1, fn__law_wider_0, fn_law_0, fn_law_1, fn_law_2, fn_law_3, fn_law_4, fn_law_5, fn_law_6, fn_law_7, fn_law_8, d_join_prints, ir_join_prints, ix_pr0, g1, g2, len_row, l1, l2, j, c, n_hv, hk]
  · have c := cs_big (b := b ++ b2) rc (by omega) (by omega)
    simp (implicitDefEqProofs := false) only [out_er, r_x, r_call, r_cv, r_ife, pick_c, isFn_fn, h_fld, h_var, h_non, h_bl, h_int, h_str, h_cmp, h_bo, h_nt, h_ife, h_ret, h_ifr, fld_1, cmpH_ss, cmpH_ii, par_2, par_3, f0_s, f0_i, eq_self, fl_all1, zip_1, Rs.toX_ok, Rs.toX_er, Rs.toX_st, Ot.catch_nx, Ot.catch_rt, Ot.catch_bk, Ot.catch_ct, Ot.catch_er, Ot.catch_st, Ot.then_er, Ot.turn_er, and_self, vl_v, ow_o, gt_zero, gt_succ, pt_zero, pt_succ, kil_nil, kil_cons, Rs.bind_ok, Rs.to_ok, Rs.calm_ok, Ot.then_nx, Ot.then_rt, Ot.then_bk, Ot.then_ct, Ot.turn_nx, Ot.turn_ct, Ot.turn_bk, Ot.turn_rt, chg, asInt_int, isOwn_v, isOwn_o, isOwn_none, g_nm, g_tp, g_n, g_c, List.map_cons, List.map_nil, List.length_cons, List.length_nil, List.cons_append, List.nil_append, List.replicate_succ, List.replicate_zero, Nat.reduceSub, Nat.reduceAdd, Nat.reduceLeDiff, Nat.le_refl, Nat.zero_le, Nat.sub_self, Nat.reduceEqDiff, if_true, if_false, ite_true, ite_false, Bool.false_eq_true, decide_true, decide_false, beq_self_eq_true, List.any_cons, List.any_nil, Bool.or_false, Bool.false_or, Bool.or_true, Bool.and_true, Bool.true_and, Bool.false_and, Bool.and_false, Bool.not_true, Bool.not_false, reduceIte, Int.reduceLT, Int.reduceLE, Int.reduceNeg, Int.reducePow, Int.reduceToNat, Int.reduceSub, Int.reduceAdd, Int.reduceMul, decide_eq_true_eq, Int.toNat_natCast, okR, run_eq, out_nx, out_rt, beqT, beqF, and_self, Bool.true_or, Bool.or_self, b_addi, b_adds, b_addl, b_addt, b_sub, b_mul, b_div, b_mod, b_pow, c_eq, c_ne, c_lt, c_ltt, k_mn, nd_n, nd_b, nd_i, nd_s, nd_l, nd_t, nd_0, nd_c, c_le, c_gt, c_ge, c_is0, c_isi, c_iss, c_isl, c_ist, c_isb, c_no0, c_noi, c_nos, c_nol, c_not, c_nob, c_in, c_ni, u_n, u_b, u_i, u_s, u_l, u_t, f_lenl, f_lent, f_lens, f_ll, f_lt, f_tl, f_tt, f_int, f_bool, f_str, f_max2, f_min2, f_max, f_min, f_sum, f_sumt, l_s, c_les, g_ai, z_ll, z_lt, z_tl, z_tt, min_ints, min_t, mx_ints, mx_t, s_l, s_t, l_l, l_t, a_l, e_l, j_l, j_t, m_x, isn_i, isn_b, isn_s, isn_l, isn_t, isn_n, evb1, evb2, evc0, evc1, andB1, andB2, fl_n, fl_b, fl_i, fl_s, fl_t, fb_0, fb_i, fb_b, fb_s, b_rep, asBool_bool, n_10, Nat.reduceLT, tx_s, eqD_int, eqD_str, eqD_bool, eqD_nil_int, n_10, Nat.reduceLT, n_10, Nat.reduceLT, n_10, Nat.reduceLT, n_10, Nat.reduceLT, n_10, Nat.reduceLT, n_10, Nat.reduceLT, q_ev0, q_ev1, q_ev2, q_ev3, q_ev4, q_ev5, q_ev6, q_ev7, q_ev8, q_ev9, q_ev10, q_ev11, q_ev12, q_ev13, q_ev14, q_ev15, q_ev16, q_ev17, q_ev18, q_ev19, q_ev20, q_ev21, q_ev22, q_ev23, q_ev24, q_ev25, q_ev26, q_ev27, q_ev28, q_ev29, q_ev30, q_ev31, q_ev32, q_ev33, q_ev34, q_ev35, q_ev36, q_evs0, q_evs1, q_evo0, q_evo1, q_evw0, q_evw1, q_evw2, q_evw3, q_evw4, q_evw5, q_evw6, q_evw7, q_ex0, q_ex1, q_ex2, q_ex3, q_ex4, q_ex5, q_ex6, q_ex7, q_ex8, q_ex9, q_ex10, q_ex11, q_ex12, q_ex13, q_ex14, q_ex15, q_ex16, q_ex17, q_ex18, q_ex19, q_ex20, q_ex21, q_ex22, q_ex23, q_ex24, q_ex25, q_exs0, q_exs1, q_exs2, q_exs3, n_10, Nat.reduceLT, fn_rotated_0, fn_turn_print_0, fn_cut_print_0, fn_cut_print_1, gn_check_size_0, fn_join_prints_0, fn_join_prints_1, fn_work_and_turn_0, fn_work_and_turn_1, fn_work_and_tumble_0, fn_work_and_tumble_1, fn_printing_method_0, fn__law_same_0, fn__law_print_0, fn__law_print_1, fn__law_told_0, fn__law_told_1, fn__law_wider_0, fn_law_0, fn_law_1, fn_law_2, fn_law_3, fn_law_4, fn_law_5, fn_law_6, fn_law_7, fn_law_8, d_join_prints, ir_join_prints, ix_pr0, g1, g2, len_row, l1, l2, j, c, n_hv, hk]
theorem rot_rc {s : Sd} (h : Rc n m s) : Rc n m (rot s) := by
  refine ⟨by rw [rot, List.length_map, List.length_reverse]; exact h.1, fun r hr => ?_⟩
  obtain ⟨q, hq, rfl⟩ := List.mem_map.mp hr
  rw [List.length_map, List.length_reverse]
  exact h.2 q (List.mem_reverse.mp hq)
theorem rot_app (s t : Sd) : rot (s ++ t) = rot t ++ rot s := by
  rw [rot, List.reverse_append, List.map_append]
  rfl
theorem g_tt : isFnD "work_and_turn" (fnD "work_and_turn") = true := rfl
theorem g_tu : isFnD "work_and_turn" (fnD "work_and_tumble") = false := rfl
theorem g_uu : isFnD "work_and_tumble" (fnD "work_and_tumble") = true := rfl
theorem n_tu : ¬ (("work_and_turn" : Str) = "work_and_tumble") := by decide
theorem told_v (hf : Rc n m f) (hb : Rc n m b) (hn : 1 ≤ n ∧ n ≤ 8) (hm : m ≤ 8) : d__law_told [fnD "work_and_turn", prD (f, b)] = .ok (if m + m ≤ 8 then prD (catC f b, catC f b) else bigS) := by
  have tv := turn_v (f, b)
  have j := jp_v hf hb hb hf hn.1 (by omega) (by omega) (by omega)
  by_cases hk : m + m ≤ 8
  · rw [if_pos ⟨hn.2, hk⟩] at j
    simp (implicitDefEqProofs := false) only [out_er, r_x, r_call, r_cv, r_ife, pick_c, isFn_fn, h_fld, h_var, h_non, h_bl, h_int, h_str, h_cmp, h_bo, h_nt, h_ife, h_ret, h_ifr, fld_1, cmpH_ss, cmpH_ii, par_2, par_3, f0_s, f0_i, eq_self, fl_all1, zip_1, Rs.toX_ok, Rs.toX_er, Rs.toX_st, Ot.catch_nx, Ot.catch_rt, Ot.catch_bk, Ot.catch_ct, Ot.catch_er, Ot.catch_st, Ot.then_er, Ot.turn_er, and_self, vl_v, ow_o, gt_zero, gt_succ, pt_zero, pt_succ, kil_nil, kil_cons, Rs.bind_ok, Rs.to_ok, Rs.calm_ok, Ot.then_nx, Ot.then_rt, Ot.then_bk, Ot.then_ct, Ot.turn_nx, Ot.turn_ct, Ot.turn_bk, Ot.turn_rt, chg, asInt_int, isOwn_v, isOwn_o, isOwn_none, g_nm, g_tp, g_n, g_c, List.map_cons, List.map_nil, List.length_cons, List.length_nil, List.cons_append, List.nil_append, List.replicate_succ, List.replicate_zero, Nat.reduceSub, Nat.reduceAdd, Nat.reduceLeDiff, Nat.le_refl, Nat.zero_le, Nat.sub_self, Nat.reduceEqDiff, if_true, if_false, ite_true, ite_false, Bool.false_eq_true, decide_true, decide_false, beq_self_eq_true, List.any_cons, List.any_nil, Bool.or_false, Bool.false_or, Bool.or_true, Bool.and_true, Bool.true_and, Bool.false_and, Bool.and_false, Bool.not_true, Bool.not_false, reduceIte, Int.reduceLT, Int.reduceLE, Int.reduceNeg, Int.reducePow, Int.reduceToNat, Int.reduceSub, Int.reduceAdd, Int.reduceMul, decide_eq_true_eq, Int.toNat_natCast, okR, run_eq, out_nx, out_rt, beqT, beqF, and_self, Bool.true_or, Bool.or_self, b_addi, b_adds, b_addl, b_addt, b_sub, b_mul, b_div, b_mod, b_pow, c_eq, c_ne, c_lt, c_ltt, k_mn, nd_n, nd_b, nd_i, nd_s, nd_l, nd_t, nd_0, nd_c, c_le, c_gt, c_ge, c_is0, c_isi, c_iss, c_isl, c_ist, c_isb, c_no0, c_noi, c_nos, c_nol, c_not, c_nob, c_in, c_ni, u_n, u_b, u_i, u_s, u_l, u_t, f_lenl, f_lent, f_lens, f_ll, f_lt, f_tl, f_tt, f_int, f_bool, f_str, f_max2, f_min2, f_max, f_min, f_sum, f_sumt, l_s, c_les, g_ai, z_ll, z_lt, z_tl, z_tt, min_ints, min_t, mx_ints, mx_t, s_l, s_t, l_l, l_t, a_l, e_l, j_l, j_t, m_x, isn_i, isn_b, isn_s, isn_l, isn_t, isn_n, evb1, evb2, evc0, evc1, andB1, andB2, fl_n, fl_b, fl_i, fl_s, fl_t, fb_0, fb_i, fb_b, fb_s, b_rep, asBool_bool, n_10, Nat.reduceLT, tx_s, eqD_int, eqD_str, eqD_bool, eqD_nil_int, n_10, Nat.reduceLT, n_10, Nat.reduceLT, n_10, Nat.reduceLT, n_10, Nat.reduceLT, n_10, Nat.reduceLT, n_10, Nat.reduceLT, q_ev0, q_ev1, q_ev2, q_ev3, q_ev4, q_ev5, q_ev6, q_ev7, q_ev8, q_ev9, q_ev10, q_ev11, q_ev12, q_ev13, q_ev14, q_ev15, q_ev16, q_ev17, q_ev18, q_ev19, q_ev20, q_ev21, q_ev22, q_ev23, q_ev24, q_ev25, q_ev26, q_ev27, q_ev28, q_ev29, q_ev30, q_ev31, q_ev32, q_ev33, q_ev34, q_ev35, q_ev36, q_evs0, q_evs1, q_evo0, q_evo1, q_evw0, q_evw1, q_evw2, q_evw3, q_evw4, q_evw5, q_evw6, q_evw7, q_ex0, q_ex1, q_ex2, q_ex3, q_ex4, q_ex5, q_ex6, q_ex7, q_ex8, q_ex9, q_ex10, q_ex11, q_ex12, q_ex13, q_ex14, q_ex15, q_ex16, q_ex17, q_ex18, q_ex19, q_ex20, q_ex21, q_ex22, q_ex23, q_ex24, q_ex25, q_exs0, q_exs1, q_exs2, q_exs3, n_10, Nat.reduceLT, fn_rotated_0, fn_turn_print_0, fn_cut_print_0, fn_cut_print_1, gn_check_size_0, fn_join_prints_0, fn_join_prints_1, fn_work_and_turn_0, fn_work_and_turn_1, fn_work_and_tumble_0, fn_work_and_tumble_1, fn_printing_method_0, fn__law_same_0, fn__law_print_0, fn__law_print_1, fn__law_told_0, fn__law_told_1, fn__law_wider_0, fn_law_0, fn_law_1, fn_law_2, fn_law_3, fn_law_4, fn_law_5, fn_law_6, fn_law_7, fn_law_8, d__law_told, ir__law_told, b__law_told_0, d_work_and_turn, ir_work_and_turn, tv, j, hk]
  · rw [if_neg (by omega)] at j
    simp (implicitDefEqProofs := false) only [out_er, r_x, r_call, r_cv, r_ife, pick_c, isFn_fn, h_fld, h_var, h_non, h_bl, h_int, h_str, h_cmp, h_bo, h_nt, h_ife, h_ret, h_ifr, fld_1, cmpH_ss, cmpH_ii, par_2, par_3, f0_s, f0_i, eq_self, fl_all1, zip_1, Rs.toX_ok, Rs.toX_er, Rs.toX_st, Ot.catch_nx, Ot.catch_rt, Ot.catch_bk, Ot.catch_ct, Ot.catch_er, Ot.catch_st, Ot.then_er, Ot.turn_er, and_self, vl_v, ow_o, gt_zero, gt_succ, pt_zero, pt_succ, kil_nil, kil_cons, Rs.bind_ok, Rs.to_ok, Rs.calm_ok, Ot.then_nx, Ot.then_rt, Ot.then_bk, Ot.then_ct, Ot.turn_nx, Ot.turn_ct, Ot.turn_bk, Ot.turn_rt, chg, asInt_int, isOwn_v, isOwn_o, isOwn_none, g_nm, g_tp, g_n, g_c, List.map_cons, List.map_nil, List.length_cons, List.length_nil, List.cons_append, List.nil_append, List.replicate_succ, List.replicate_zero, Nat.reduceSub, Nat.reduceAdd, Nat.reduceLeDiff, Nat.le_refl, Nat.zero_le, Nat.sub_self, Nat.reduceEqDiff, if_true, if_false, ite_true, ite_false, Bool.false_eq_true, decide_true, decide_false, beq_self_eq_true, List.any_cons, List.any_nil, Bool.or_false, Bool.false_or, Bool.or_true, Bool.and_true, Bool.true_and, Bool.false_and, Bool.and_false, Bool.not_true, Bool.not_false, reduceIte, Int.reduceLT, Int.reduceLE, Int.reduceNeg, Int.reducePow, Int.reduceToNat, Int.reduceSub, Int.reduceAdd, Int.reduceMul, decide_eq_true_eq, Int.toNat_natCast, okR, run_eq, out_nx, out_rt, beqT, beqF, and_self, Bool.true_or, Bool.or_self, b_addi, b_adds, b_addl, b_addt, b_sub, b_mul, b_div, b_mod, b_pow, c_eq, c_ne, c_lt, c_ltt, k_mn, nd_n, nd_b, nd_i, nd_s, nd_l, nd_t, nd_0, nd_c, c_le, c_gt, c_ge, c_is0, c_isi, c_iss, c_isl, c_ist, c_isb, c_no0, c_noi, c_nos, c_nol, c_not, c_nob, c_in, c_ni, u_n, u_b, u_i, u_s, u_l, u_t, f_lenl, f_lent, f_lens, f_ll, f_lt, f_tl, f_tt, f_int, f_bool, f_str, f_max2, f_min2, f_max, f_min, f_sum, f_sumt, l_s, c_les, g_ai, z_ll, z_lt, z_tl, z_tt, min_ints, min_t, mx_ints, mx_t, s_l, s_t, l_l, l_t, a_l, e_l, j_l, j_t, m_x, isn_i, isn_b, isn_s, isn_l, isn_t, isn_n, evb1, evb2, evc0, evc1, andB1, andB2, fl_n, fl_b, fl_i, fl_s, fl_t, fb_0, fb_i, fb_b, fb_s, b_rep, asBool_bool, n_10, Nat.reduceLT, tx_s, eqD_int, eqD_str, eqD_bool, eqD_nil_int, n_10, Nat.reduceLT, n_10, Nat.reduceLT, n_10, Nat.reduceLT, n_10, Nat.reduceLT, n_10, Nat.reduceLT, n_10, Nat.reduceLT, q_ev0, q_ev1, q_ev2, q_ev3, q_ev4, q_ev5, q_ev6, q_ev7, q_ev8, q_ev9, q_ev10, q_ev11, q_ev12, q_ev13, q_ev14, q_ev15, q_ev16, q_ev17, q_ev18, q_ev19, q_ev20, q_ev21, q_ev22, q_ev23, q_ev24, q_ev25, q_ev26, q_ev27, q_ev28, q_ev29, q_ev30, q_ev31, q_ev32, q_ev33, q_ev34, q_ev35, q_ev36, q_evs0, q_evs1, q_evo0, q_evo1, q_evw0, q_evw1, q_evw2, q_evw3, q_evw4, q_evw5, q_evw6, q_evw7, q_ex0, q_ex1, q_ex2, q_ex3, q_ex4, q_ex5, q_ex6, q_ex7, q_ex8, q_ex9, q_ex10, q_ex11, q_ex12, q_ex13, q_ex14, q_ex15, q_ex16, q_ex17, q_ex18, q_ex19, q_ex20, q_ex21, q_ex22, q_ex23, q_ex24, q_ex25, q_exs0, q_exs1, q_exs2, q_exs3, n_10, Nat.reduceLT, fn_rotated_0, fn_turn_print_0, fn_cut_print_0, fn_cut_print_1, gn_check_size_0, fn_join_prints_0, fn_join_prints_1, fn_work_and_turn_0, fn_work_and_turn_1, fn_work_and_tumble_0, fn_work_and_tumble_1, fn_printing_method_0, fn__law_same_0, fn__law_print_0, fn__law_print_1, fn__law_told_0, fn__law_told_1, fn__law_wider_0, fn_law_0, fn_law_1, fn_law_2, fn_law_3, fn_law_4, fn_law_5, fn_law_6, fn_law_7, fn_law_8, d__law_told, ir__law_told, b__law_told_0, d_work_and_turn, ir_work_and_turn, tv, j, hk]
theorem told_h (hf : Rc n m f) (hb : Rc n m b) (hn : 1 ≤ n ∧ n ≤ 8) (hm : m ≤ 8) : d__law_told [fnD "work_and_tumble", prD (f, b)] = .ok (if n + n ≤ 8 then prD (f ++ rot b, b ++ rot f) else bigS) := by
  have tv := turn_h (f, b)
  have j := jp_h hf hb (rot_rc hb) (rot_rc hf) hn.1 hn.1 (by omega) (by omega) (by omega)
  by_cases hk : n + n ≤ 8
  · rw [if_pos ⟨hk, hm⟩] at j
    simp (implicitDefEqProofs := false) only [out_er, r_x, r_call, r_cv, r_ife, pick_c, isFn_fn, h_fld, h_var, h_non, h_bl, h_int, h_str, h_cmp, h_bo, h_nt, h_ife, h_ret, h_ifr, fld_1, cmpH_ss, cmpH_ii, par_2, par_3, f0_s, f0_i, eq_self, fl_all1, zip_1, Rs.toX_ok, Rs.toX_er, Rs.toX_st, Ot.catch_nx, Ot.catch_rt, Ot.catch_bk, Ot.catch_ct, Ot.catch_er, Ot.catch_st, Ot.then_er, Ot.turn_er, and_self, vl_v, ow_o, gt_zero, gt_succ, pt_zero, pt_succ, kil_nil, kil_cons, Rs.bind_ok, Rs.to_ok, Rs.calm_ok, Ot.then_nx, Ot.then_rt, Ot.then_bk, Ot.then_ct, Ot.turn_nx, Ot.turn_ct, Ot.turn_bk, Ot.turn_rt, chg, asInt_int, isOwn_v, isOwn_o, isOwn_none, g_nm, g_tp, g_n, g_c, List.map_cons, List.map_nil, List.length_cons, List.length_nil, List.cons_append, List.nil_append, List.replicate_succ, List.replicate_zero, Nat.reduceSub, Nat.reduceAdd, Nat.reduceLeDiff, Nat.le_refl, Nat.zero_le, Nat.sub_self, Nat.reduceEqDiff, if_true, if_false, ite_true, ite_false, Bool.false_eq_true, decide_true, decide_false, beq_self_eq_true, List.any_cons, List.any_nil, Bool.or_false, Bool.false_or, Bool.or_true, Bool.and_true, Bool.true_and, Bool.false_and, Bool.and_false, Bool.not_true, Bool.not_false, reduceIte, Int.reduceLT, Int.reduceLE, Int.reduceNeg, Int.reducePow, Int.reduceToNat, Int.reduceSub, Int.reduceAdd, Int.reduceMul, decide_eq_true_eq, Int.toNat_natCast, okR, run_eq, out_nx, out_rt, beqT, beqF, and_self, Bool.true_or, Bool.or_self, b_addi, b_adds, b_addl, b_addt, b_sub, b_mul, b_div, b_mod, b_pow, c_eq, c_ne, c_lt, c_ltt, k_mn, nd_n, nd_b, nd_i, nd_s, nd_l, nd_t, nd_0, nd_c, c_le, c_gt, c_ge, c_is0, c_isi, c_iss, c_isl, c_ist, c_isb, c_no0, c_noi, c_nos, c_nol, c_not, c_nob, c_in, c_ni, u_n, u_b, u_i, u_s, u_l, u_t, f_lenl, f_lent, f_lens, f_ll, f_lt, f_tl, f_tt, f_int, f_bool, f_str, f_max2, f_min2, f_max, f_min, f_sum, f_sumt, l_s, c_les, g_ai, z_ll, z_lt, z_tl, z_tt, min_ints, min_t, mx_ints, mx_t, s_l, s_t, l_l, l_t, a_l, e_l, j_l, j_t, m_x, isn_i, isn_b, isn_s, isn_l, isn_t, isn_n, evb1, evb2, evc0, evc1, andB1, andB2, fl_n, fl_b, fl_i, fl_s, fl_t, fb_0, fb_i, fb_b, fb_s, b_rep, asBool_bool, n_10, Nat.reduceLT, tx_s, eqD_int, eqD_str, eqD_bool, eqD_nil_int, n_10, Nat.reduceLT, n_10, Nat.reduceLT, n_10, Nat.reduceLT, n_10, Nat.reduceLT, n_10, Nat.reduceLT, n_10, Nat.reduceLT, q_ev0, q_ev1, q_ev2, q_ev3, q_ev4, q_ev5, q_ev6, q_ev7, q_ev8, q_ev9, q_ev10, q_ev11, q_ev12, q_ev13, q_ev14, q_ev15, q_ev16, q_ev17, q_ev18, q_ev19, q_ev20, q_ev21, q_ev22, q_ev23, q_ev24, q_ev25, q_ev26, q_ev27, q_ev28, q_ev29, q_ev30, q_ev31, q_ev32, q_ev33, q_ev34, q_ev35, q_ev36, q_evs0, q_evs1, q_evo0, q_evo1, q_evw0, q_evw1, q_evw2, q_evw3, q_evw4, q_evw5, q_evw6, q_evw7, q_ex0, q_ex1, q_ex2, q_ex3, q_ex4, q_ex5, q_ex6, q_ex7, q_ex8, q_ex9, q_ex10, q_ex11, q_ex12, q_ex13, q_ex14, q_ex15, q_ex16, q_ex17, q_ex18, q_ex19, q_ex20, q_ex21, q_ex22, q_ex23, q_ex24, q_ex25, q_exs0, q_exs1, q_exs2, q_exs3, n_10, Nat.reduceLT, fn_rotated_0, fn_turn_print_0, fn_cut_print_0, fn_cut_print_1, gn_check_size_0, fn_join_prints_0, fn_join_prints_1, fn_work_and_turn_0, fn_work_and_turn_1, fn_work_and_tumble_0, fn_work_and_tumble_1, fn_printing_method_0, fn__law_same_0, fn__law_print_0, fn__law_print_1, fn__law_told_0, fn__law_told_1, fn__law_wider_0, fn_law_0, fn_law_1, fn_law_2, fn_law_3, fn_law_4, fn_law_5, fn_law_6, fn_law_7, fn_law_8, d__law_told, ir__law_told, b__law_told_0, d_work_and_tumble, ir_work_and_tumble, n_tu, g_uu, tv, j, hk]
  · rw [if_neg (by omega)] at j
    simp (implicitDefEqProofs := false) only [out_er, r_x, r_call, r_cv, r_ife, pick_c, isFn_fn, h_fld, h_var, h_non, h_bl, h_int, h_str, h_cmp, h_bo, h_nt, h_ife, h_ret, h_ifr, fld_1, cmpH_ss, cmpH_ii, par_2, par_3, f0_s, f0_i, eq_self, fl_all1, zip_1, Rs.toX_ok, Rs.toX_er, Rs.toX_st, Ot.catch_nx, Ot.catch_rt, Ot.catch_bk, Ot.catch_ct, Ot.catch_er, Ot.catch_st, Ot.then_er, Ot.turn_er, and_self, vl_v, ow_o, gt_zero, gt_succ, pt_zero, pt_succ, kil_nil, kil_cons, Rs.bind_ok, Rs.to_ok, Rs.calm_ok, Ot.then_nx, Ot.then_rt, Ot.then_bk, Ot.then_ct, Ot.turn_nx, Ot.turn_ct, Ot.turn_bk, Ot.turn_rt, chg, asInt_int, isOwn_v, isOwn_o, isOwn_none, g_nm, g_tp, g_n, g_c, List.map_cons, List.map_nil, List.length_cons, List.length_nil, List.cons_append, List.nil_append, List.replicate_succ, List.replicate_zero, Nat.reduceSub, Nat.reduceAdd, Nat.reduceLeDiff, Nat.le_refl, Nat.zero_le, Nat.sub_self, Nat.reduceEqDiff, if_true, if_false, ite_true, ite_false, Bool.false_eq_true, decide_true, decide_false, beq_self_eq_true, List.any_cons, List.any_nil, Bool.or_false, Bool.false_or, Bool.or_true, Bool.and_true, Bool.true_and, Bool.false_and, Bool.and_false, Bool.not_true, Bool.not_false, reduceIte, Int.reduceLT, Int.reduceLE, Int.reduceNeg, Int.reducePow, Int.reduceToNat, Int.reduceSub, Int.reduceAdd, Int.reduceMul, decide_eq_true_eq, Int.toNat_natCast, okR, run_eq, out_nx, out_rt, beqT, beqF, and_self, Bool.true_or, Bool.or_self, b_addi, b_adds, b_addl, b_addt, b_sub, b_mul, b_div, b_mod, b_pow, c_eq, c_ne, c_lt, c_ltt, k_mn, nd_n, nd_b, nd_i, nd_s, nd_l, nd_t, nd_0, nd_c, c_le, c_gt, c_ge, c_is0, c_isi, c_iss, c_isl, c_ist, c_isb, c_no0, c_noi, c_nos, c_nol, c_not, c_nob, c_in, c_ni, u_n, u_b, u_i, u_s, u_l, u_t, f_lenl, f_lent, f_lens, f_ll, f_lt, f_tl, f_tt, f_int, f_bool, f_str, f_max2, f_min2, f_max, f_min, f_sum, f_sumt, l_s, c_les, g_ai, z_ll, z_lt, z_tl, z_tt, min_ints, min_t, mx_ints, mx_t, s_l, s_t, l_l, l_t, a_l, e_l, j_l, j_t, m_x, isn_i, isn_b, isn_s, isn_l, isn_t, isn_n, evb1, evb2, evc0, evc1, andB1, andB2, fl_n, fl_b, fl_i, fl_s, fl_t, fb_0, fb_i, fb_b, fb_s, b_rep, asBool_bool, n_10, Nat.reduceLT, tx_s, eqD_int, eqD_str, eqD_bool, eqD_nil_int, n_10, Nat.reduceLT, n_10, Nat.reduceLT, n_10, Nat.reduceLT, n_10, Nat.reduceLT, n_10, Nat.reduceLT, n_10, Nat.reduceLT, q_ev0, q_ev1, q_ev2, q_ev3, q_ev4, q_ev5, q_ev6, q_ev7, q_ev8, q_ev9, q_ev10, q_ev11, q_ev12, q_ev13, q_ev14, q_ev15, q_ev16, q_ev17, q_ev18, q_ev19, q_ev20, q_ev21, q_ev22, q_ev23, q_ev24, q_ev25, q_ev26, q_ev27, q_ev28, q_ev29, q_ev30, q_ev31, q_ev32, q_ev33, q_ev34, q_ev35, q_ev36, q_evs0, q_evs1, q_evo0, q_evo1, q_evw0, q_evw1, q_evw2, q_evw3, q_evw4, q_evw5, q_evw6, q_evw7, q_ex0, q_ex1, q_ex2, q_ex3, q_ex4, q_ex5, q_ex6, q_ex7, q_ex8, q_ex9, q_ex10, q_ex11, q_ex12, q_ex13, q_ex14, q_ex15, q_ex16, q_ex17, q_ex18, q_ex19, q_ex20, q_ex21, q_ex22, q_ex23, q_ex24, q_ex25, q_exs0, q_exs1, q_exs2, q_exs3, n_10, Nat.reduceLT, fn_rotated_0, fn_turn_print_0, fn_cut_print_0, fn_cut_print_1, gn_check_size_0, fn_join_prints_0, fn_join_prints_1, fn_work_and_turn_0, fn_work_and_turn_1, fn_work_and_tumble_0, fn_work_and_tumble_1, fn_printing_method_0, fn__law_same_0, fn__law_print_0, fn__law_print_1, fn__law_told_0, fn__law_told_1, fn__law_wider_0, fn_law_0, fn_law_1, fn_law_2, fn_law_3, fn_law_4, fn_law_5, fn_law_6, fn_law_7, fn_law_8, d__law_told, ir__law_told, b__law_told_0, d_work_and_tumble, ir_work_and_tumble, n_tu, g_uu, tv, j, hk]
/-! ### the sheet -/
theorem dbl_rc {s : Sd} (h : Rc n m s) : Rc n (m + m) (s.map fun r => r ++ r) := by
  refine ⟨by rw [List.length_map]; exact h.1, fun r hr => ?_⟩
  obtain ⟨q, hq, rfl⟩ := List.mem_map.mp hr
  rw [List.length_append, h.2 q hq]
theorem dbl_map (s : Sd) : (.tuple (s.map fun r => rowD (r ++ r)) : D) = sideD (s.map fun r => r ++ r) := by
  rw [sideD, List.map_map]
  rfl
theorem wider_ok {ns : List Int} {x : Int} (c2 : d__law_cell [.list (ns.map fun i => .int i), .int 2] = .ok (.int x)) (hf : Rc n m f) (hb : Rc n m b) (hn : 1 ≤ n ∧ n ≤ 4) (hm : 1 ≤ m ∧ m ≤ 4) :
    ∃ n' m' f' b', (1 ≤ n' ∧ n' ≤ 8) ∧ (1 ≤ m' ∧ m' ≤ 8) ∧ Rc n' m' f' ∧ Rc n' m' b' ∧ d__law_wider [prD (f, b), .list (ns.map fun i => .int i)] = .ok (prD (f', b')) := by
  have z : ∀ {s : Sd}, Rc n m s → ∀ r ∈ s, r.length + r.length ≤ 16777216 := fun h r hr => by rw [h.2 r hr]; omega
  have h3 : x % 3 = 0 ∨ x % 3 = 1 ∨ x % 3 = 2 := by omega
  rcases h3 with h3 | h3 | h3
  · refine ⟨n, m, f, b, by omega, by omega, hf, hb, ?_⟩
    simp (implicitDefEqProofs := false) only [out_er, r_x, r_call, r_cv, r_ife, pick_c, isFn_fn, h_fld, h_var, h_non, h_bl, h_int, h_str, h_cmp, h_bo, h_nt, h_ife, h_ret, h_ifr, fld_1, cmpH_ss, cmpH_ii, par_2, par_3, f0_s, f0_i, eq_self, fl_all1, zip_1, Rs.toX_ok, Rs.toX_er, Rs.toX_st, Ot.catch_nx, Ot.catch_rt, Ot.catch_bk, Ot.catch_ct, Ot.catch_er, Ot.catch_st, Ot.then_er, Ot.turn_er, and_self, vl_v, ow_o, gt_zero, gt_succ, pt_zero, pt_succ, kil_nil, kil_cons, Rs.bind_ok, Rs.to_ok, Rs.calm_ok, Ot.then_nx, Ot.then_rt, Ot.then_bk, Ot.then_ct, Ot.turn_nx, Ot.turn_ct, Ot.turn_bk, Ot.turn_rt, chg, asInt_int, isOwn_v, isOwn_o, isOwn_none, g_nm, g_tp, g_n, g_c, List.map_cons, List.map_nil, List.length_cons, List.length_nil, List.cons_append, List.nil_append, List.replicate_succ, List.replicate_zero, Nat.reduceSub, Nat.reduceAdd, Nat.reduceLeDiff, Nat.le_refl, Nat.zero_le, Nat.sub_self, Nat.reduceEqDiff, if_true, if_false, ite_true, ite_false, Bool.false_eq_true, decide_true, decide_false, beq_self_eq_true, List.any_cons, List.any_nil, Bool.or_false, Bool.false_or, Bool.or_true, Bool.and_true, Bool.true_and, Bool.false_and, Bool.and_false, Bool.not_true, Bool.not_false, reduceIte, Int.reduceLT, Int.reduceLE, Int.reduceNeg, Int.reducePow, Int.reduceToNat, Int.reduceSub, Int.reduceAdd, Int.reduceMul, decide_eq_true_eq, Int.toNat_natCast, okR, run_eq, out_nx, out_rt, beqT, beqF, and_self, Bool.true_or, Bool.or_self, b_addi, b_adds, b_addl, b_addt, b_sub, b_mul, b_div, b_mod, b_pow, c_eq, c_ne, c_lt, c_ltt, k_mn, nd_n, nd_b, nd_i, nd_s, nd_l, nd_t, nd_0, nd_c, c_le, c_gt, c_ge, c_is0, c_isi, c_iss, c_isl, c_ist, c_isb, c_no0, c_noi, c_nos, c_nol, c_not, c_nob, c_in, c_ni, u_n, u_b, u_i, u_s, u_l, u_t, f_lenl, f_lent, f_lens, f_ll, f_lt, f_tl, f_tt, f_int, f_bool, f_str, f_max2, f_min2, f_max, f_min, f_sum, f_sumt, l_s, c_les, g_ai, z_ll, z_lt, z_tl, z_tt, min_ints, min_t, mx_ints, mx_t, s_l, s_t, l_l, l_t, a_l, e_l, j_l, j_t, m_x, isn_i, isn_b, isn_s, isn_l, isn_t, isn_n, evb1, evb2, evc0, evc1, andB1, andB2, fl_n, fl_b, fl_i, fl_s, fl_t, fb_0, fb_i, fb_b, fb_s, b_rep, asBool_bool, n_10, Nat.reduceLT, tx_s, eqD_int, eqD_str, eqD_bool, eqD_nil_int, n_10, Nat.reduceLT, n_10, Nat.reduceLT, n_10, Nat.reduceLT, n_10, Nat.reduceLT, n_10, Nat.reduceLT, n_10, Nat.reduceLT, q_ev0, q_ev1, q_ev2, q_ev3, q_ev4, q_ev5, q_ev6, q_ev7, q_ev8, q_ev9, q_ev10, q_ev11, q_ev12, q_ev13, q_ev14, q_ev15, q_ev16, q_ev17, q_ev18, q_ev19, q_ev20, q_ev21, q_ev22, q_ev23, q_ev24, q_ev25, q_ev26, q_ev27, q_ev28, q_ev29, q_ev30, q_ev31, q_ev32, q_ev33, q_ev34, q_ev35, q_ev36, q_evs0, q_evs1, q_evo0, q_evo1, q_evw0, q_evw1, q_evw2, q_evw3, q_evw4, q_evw5, q_evw6, q_evw7, q_ex0, q_ex1, q_ex2, q_ex3, q_ex4, q_ex5, q_ex6, q_ex7, q_ex8, q_ex9, q_ex10, q_ex11, q_ex12, q_ex13, q_ex14, q_ex15, q_ex16, q_ex17, q_ex18, q_ex19, q_ex20, q_ex21, q_ex22, q_ex23, q_ex24, q_ex25, q_exs0, q_exs1, q_exs2, q_exs3, n_10, Nat.reduceLT, fn_rotated_0, fn_turn_print_0, fn_cut_print_0, fn_cut_print_1, gn_check_size_0, fn_join_prints_0, fn_join_prints_1, fn_work_and_turn_0, fn_work_and_turn_1, fn_work_and_tumble_0, fn_work_and_tumble_1, fn_printing_method_0, fn__law_same_0, fn__law_print_0, fn__law_print_1, fn__law_told_0, fn__law_told_1, fn__law_wider_0, fn_law_0, fn_law_1, fn_law_2, fn_law_3, fn_law_4, fn_law_5, fn_law_6, fn_law_7, fn_law_8, d__law_wider, ir__law_wider, c2, h3, Int.reduceEq, pr_asg]
  · refine ⟨n, m + m, _, _, by omega, by omega, dbl_rc hf, dbl_rc hb, ?_⟩
    simp (implicitDefEqProofs := false) only [out_er, r_x, r_call, r_cv, r_ife, pick_c, isFn_fn, h_fld, h_var, h_non, h_bl, h_int, h_str, h_cmp, h_bo, h_nt, h_ife, h_ret, h_ifr, fld_1, cmpH_ss, cmpH_ii, par_2, par_3, f0_s, f0_i, eq_self, fl_all1, zip_1, Rs.toX_ok, Rs.toX_er, Rs.toX_st, Ot.catch_nx, Ot.catch_rt, Ot.catch_bk, Ot.catch_ct, Ot.catch_er, Ot.catch_st, Ot.then_er, Ot.turn_er, and_self, vl_v, ow_o, gt_zero, gt_succ, pt_zero, pt_succ, kil_nil, kil_cons, Rs.bind_ok, Rs.to_ok, Rs.calm_ok, Ot.then_nx, Ot.then_rt, Ot.then_bk, Ot.then_ct, Ot.turn_nx, Ot.turn_ct, Ot.turn_bk, Ot.turn_rt, chg, asInt_int, isOwn_v, isOwn_o, isOwn_none, g_nm, g_tp, g_n, g_c, List.map_cons, List.map_nil, List.length_cons, List.length_nil, List.cons_append, List.nil_append, List.replicate_succ, List.replicate_zero, Nat.reduceSub, Nat.reduceAdd, Nat.reduceLeDiff, Nat.le_refl, Nat.zero_le, Nat.sub_self, Nat.reduceEqDiff, if_true, if_false, ite_true, ite_false, Bool.false_eq_true, decide_true, decide_false, beq_self_eq_true, List.any_cons, List.any_nil, Bool.or_false, Bool.false_or, Bool.or_true, Bool.and_true, Bool.true_and, Bool.false_and, Bool.and_false, Bool.not_true, Bool.not_false, reduceIte, Int.reduceLT, Int.reduceLE, Int.reduceNeg, Int.reducePow, Int.reduceToNat, Int.reduceSub, Int.reduceAdd, Int.reduceMul, decide_eq_true_eq, Int.toNat_natCast, okR, run_eq, out_nx, out_rt, beqT, beqF, and_self, Bool.true_or, Bool.or_self, b_addi, b_adds, b_addl, b_addt, b_sub, b_mul, b_div, b_mod, b_pow, c_eq, c_ne, c_lt, c_ltt, k_mn, nd_n, nd_b, nd_i, nd_s, nd_l, nd_t, nd_0, nd_c, c_le, c_gt, c_ge, c_is0, c_isi, c_iss, c_isl, c_ist, c_isb, c_no0, c_noi, c_nos, c_nol, c_not, c_nob, c_in, c_ni, u_n, u_b, u_i, u_s, u_l, u_t, f_lenl, f_lent, f_lens, f_ll, f_lt, f_tl, f_tt, f_int, f_bool, f_str, f_max2, f_min2, f_max, f_min, f_sum, f_sumt, l_s, c_les, g_ai, z_ll, z_lt, z_tl, z_tt, min_ints, min_t, mx_ints, mx_t, s_l, s_t, l_l, l_t, a_l, e_l, j_l, j_t, m_x, isn_i, isn_b, isn_s, isn_l, isn_t, isn_n, evb1, evb2, evc0, evc1, andB1, andB2, fl_n, fl_b, fl_i, fl_s, fl_t, fb_0, fb_i, fb_b, fb_s, b_rep, asBool_bool, n_10, Nat.reduceLT, tx_s, eqD_int, eqD_str, eqD_bool, eqD_nil_int, n_10, Nat.reduceLT, n_10, Nat.reduceLT, n_10, Nat.reduceLT, n_10, Nat.reduceLT, n_10, Nat.reduceLT, n_10, Nat.reduceLT, q_ev0, q_ev1, q_ev2, q_ev3, q_ev4, q_ev5, q_ev6, q_ev7, q_ev8, q_ev9, q_ev10, q_ev11, q_ev12, q_ev13, q_ev14, q_ev15, q_ev16, q_ev17, q_ev18, q_ev19, q_ev20, q_ev21, q_ev22, q_ev23, q_ev24, q_ev25, q_ev26, q_ev27, q_ev28, q_ev29, q_ev30, q_ev31, q_ev32, q_ev33, q_ev34, q_ev35, q_ev36, q_evs0, q_evs1, q_evo0, q_evo1, q_evw0, q_evw1, q_evw2, q_evw3, q_evw4, q_evw5, q_evw6, q_evw7, q_ex0, q_ex1, q_ex2, q_ex3, q_ex4, q_ex5, q_ex6, q_ex7, q_ex8, q_ex9, q_ex10, q_ex11, q_ex12, q_ex13, q_ex14, q_ex15, q_ex16, q_ex17, q_ex18, q_ex19, q_ex20, q_ex21, q_ex22, q_ex23, q_ex24, q_ex25, q_exs0, q_exs1, q_exs2, q_exs3, n_10, Nat.reduceLT, fn_rotated_0, fn_turn_print_0, fn_cut_print_0, fn_cut_print_1, gn_check_size_0, fn_join_prints_0, fn_join_prints_1, fn_work_and_turn_0, fn_work_and_turn_1, fn_work_and_tumble_0, fn_work_and_tumble_1, fn_printing_method_0, fn__law_same_0, fn__law_print_0, fn__law_print_1, fn__law_told_0, fn__law_told_1, fn__law_wider_0, fn_law_0, fn_law_1, fn_law_2, fn_law_3, fn_law_4, fn_law_5, fn_law_6, fn_law_7, fn_law_8, d__law_wider, ir__law_wider, c2, h3, Int.reduceEq, pr_asg, seq_side]
    rw [mapR_map (g := fun (r : Rw) => rowD (r ++ r))]
    · simp (implicitDefEqProofs := false) only [out_er, r_x, r_call, r_cv, r_ife, pick_c, isFn_fn, h_fld, h_var, h_non, h_bl, h_int, h_str, h_cmp, h_bo, h_nt, h_ife, h_ret, h_ifr, fld_1, cmpH_ss, cmpH_ii, par_2, par_3, f0_s, f0_i, eq_self, fl_all1, zip_1, Rs.toX_ok, Rs.toX_er, Rs.toX_st, Ot.catch_nx, Ot.catch_rt, Ot.catch_bk, Ot.catch_ct, Ot.catch_er, Ot.catch_st, Ot.then_er, Ot.turn_er, and_self, vl_v, ow_o, gt_zero, gt_succ, pt_zero, pt_succ, kil_nil, kil_cons, Rs.bind_ok, Rs.to_ok, Rs.calm_ok, Ot.then_nx, Ot.then_rt, Ot.then_bk, Ot.then_ct, Ot.turn_nx, Ot.turn_ct, Ot.turn_bk, Ot.turn_rt, chg, asInt_int, isOwn_v, isOwn_o, isOwn_none, g_nm, g_tp, g_n, g_c, List.map_cons, List.map_nil, List.length_cons, List.length_nil, List.cons_append, List.nil_append, List.replicate_succ, List.replicate_zero, Nat.reduceSub, Nat.reduceAdd, Nat.reduceLeDiff, Nat.le_refl, Nat.zero_le, Nat.sub_self, Nat.reduceEqDiff, if_true, if_false, ite_true, ite_false, Bool.false_eq_true, decide_true, decide_false, beq_self_eq_true, List.any_cons, List.any_nil, Bool.or_false, Bool.false_or, Bool.or_true, Bool.and_true, Bool.true_and, Bool.false_and, Bool.and_false, Bool.not_true, Bool.not_false, reduceIte, Int.reduceLT, Int.reduceLE, Int.reduceNeg, Int.reducePow, Int.reduceToNat, Int.reduceSub, Int.reduceAdd, Int.reduceMul, decide_eq_true_eq, Int.toNat_natCast, okR, run_eq, out_nx, out_rt, beqT, beqF, and_self, Bool.true_or, Bool.or_self, b_addi, b_adds, b_addl, b_addt, b_sub, b_mul, b_div, b_mod, b_pow, c_eq, c_ne, c_lt, c_ltt, k_mn, nd_n, nd_b, nd_i, nd_s, nd_l, nd_t, nd_0, nd_c, c_le, c_gt, c_ge, c_is0, c_isi, c_iss, c_isl, c_ist, c_isb, c_no0, c_noi, c_nos, c_nol, c_not, c_nob, c_in, c_ni, u_n, u_b, u_i, u_s, u_l, u_t, f_lenl, f_lent, f_lens, f_ll, f_lt, f_tl, f_tt, f_int, f_bool, f_str, f_max2, f_min2, f_max, f_min, f_sum, f_sumt, l_s, c_les, g_ai, z_ll, z_lt, z_tl, z_tt, min_ints, min_t, mx_ints, mx_t, s_l, s_t, l_l, l_t, a_l, e_l, j_l, j_t, m_x, isn_i, isn_b, isn_s, isn_l, isn_t, isn_n, evb1, evb2, evc0, evc1, andB1, andB2, fl_n, fl_b, fl_i, fl_s, fl_t, fb_0, fb_i, fb_b, fb_s, b_rep, asBool_bool, n_10, Nat.reduceLT, tx_s, eqD_int, eqD_str, eqD_bool, eqD_nil_int, n_10, Nat.reduceLT, n_10, Nat.reduceLT, n_10, Nat.reduceLT, n_10, Nat.reduceLT, n_10, Nat.reduceLT, n_10, Nat.reduceLT, q_ev0, q_ev1, q_ev2, q_ev3, q_ev4, q_ev5, q_ev6, q_ev7, q_ev8, q_ev9, q_ev10, q_ev11, q_ev12, q_ev13, q_ev14, q_ev15, q_ev16, q_ev17, q_ev18, q_ev19, q_ev20, q_ev21, q_ev22, q_ev23, q_ev24, q_ev25, q_ev26, q_ev27, q_ev28, q_ev29, q_ev30, q_ev31, q_ev32, q_ev33, q_ev34, q_ev35, q_ev36, q_evs0, q_evs1, q_evo0, q_evo1, q_evw0, q_evw1, q_evw2, q_evw3, q_evw4, q_evw5, q_evw6, q_evw7, q_ex0, q_ex1, q_ex2, q_ex3, q_ex4, q_ex5, q_ex6, q_ex7, q_ex8, q_ex9, q_ex10, q_ex11, q_ex12, q_ex13, q_ex14, q_ex15, q_ex16, q_ex17, q_ex18, q_ex19, q_ex20, q_ex21, q_ex22, q_ex23, q_ex24, q_ex25, q_exs0, q_exs1, q_exs2, q_exs3, n_10, Nat.reduceLT, fn_rotated_0, fn_turn_print_0, fn_cut_print_0, fn_cut_print_1, gn_check_size_0, fn_join_prints_0, fn_join_prints_1, fn_work_and_turn_0, fn_work_and_turn_1, fn_work_and_tumble_0, fn_work_and_tumble_1, fn_printing_method_0, fn__law_same_0, fn__law_print_0, fn__law_print_1, fn__law_told_0, fn__law_told_1, fn__law_wider_0, fn_law_0, fn_law_1, fn_law_2, fn_law_3, fn_law_4, fn_law_5, fn_law_6, fn_law_7, fn_law_8, seq_side, dbl_map]
      rw [mapR_map (g := fun (r : Rw) => rowD (r ++ r))]
      · simp (implicitDefEqProofs := false) only [out_er, r_x, r_call, r_cv, r_ife, pick_c, isFn_fn, h_fld, h_var, h_non, h_bl, h_int, h_str, h_cmp, h_bo, h_nt, h_ife, h_ret, h_ifr, fld_1, cmpH_ss, cmpH_ii, par_2, par_3, f0_s, f0_i, eq_self, fl_all1, zip_1, Rs.toX_ok, Rs.toX_er, Rs.toX_st, Ot.catch_nx, Ot.catch_rt, Ot.catch_bk, Ot.catch_ct, Ot.catch_er, Ot.catch_st, Ot.then_er, Ot.turn_er, and_self, vl_v, ow_o, gt_zero, gt_succ, pt_zero, pt_succ, kil_nil, kil_cons, Rs.bind_ok, Rs.to_ok, Rs.calm_ok, Ot.then_nx, Ot.then_rt, Ot.then_bk, Ot.then_ct, Ot.turn_nx, Ot.turn_ct, Ot.turn_bk, Ot.turn_rt, chg, asInt_int, isOwn_v, isOwn_o, isOwn_none, g_nm, g_tp, g_n, g_c, List.map_cons, List.map_nil, List.length_cons, List.length_nil, List.cons_append, List.nil_append, List.replicate_succ, List.replicate_zero, Nat.reduceSub, Nat.reduceAdd, Nat.reduceLeDiff, Nat.le_refl, Nat.zero_le, Nat.sub_self, Nat.reduceEqDiff, if_true, if_false, ite_true, ite_false, Bool.false_eq_true, decide_true, decide_false, beq_self_eq_true, List.any_cons, List.any_nil, Bool.or_false, Bool.false_or, Bool.or_true, Bool.and_true, Bool.true_and, Bool.false_and, Bool.and_false, Bool.not_true, Bool.not_false, reduceIte, Int.reduceLT, Int.reduceLE, Int.reduceNeg, Int.reducePow, Int.reduceToNat, Int.reduceSub, Int.reduceAdd, Int.reduceMul, decide_eq_true_eq, Int.toNat_natCast, okR, run_eq, out_nx, out_rt, beqT, beqF, and_self, Bool.true_or, Bool.or_self, b_addi, b_adds, b_addl, b_addt, b_sub, b_mul, b_div, b_mod, b_pow, c_eq, c_ne, c_lt, c_ltt, k_mn, nd_n, nd_b, nd_i, nd_s, nd_l, nd_t, nd_0, nd_c, c_le, c_gt, c_ge, c_is0, c_isi, c_iss, c_isl, c_ist, c_isb, c_no0, c_noi, c_nos, c_nol, c_not, c_nob, c_in, c_ni, u_n, u_b, u_i, u_s, u_l, u_t, f_lenl, f_lent, f_lens, f_ll, f_lt, f_tl, f_tt, f_int, f_bool, f_str, f_max2, f_min2, f_max, f_min, f_sum, f_sumt, l_s, c_les, g_ai, z_ll, z_lt, z_tl, z_tt, min_ints, min_t, mx_ints, mx_t, s_l, s_t, l_l, l_t, a_l, e_l, j_l, j_t, m_x, isn_i, isn_b, isn_s, isn_l, isn_t, isn_n, evb1, evb2, evc0, evc1, andB1, andB2, fl_n, fl_b, fl_i, fl_s, fl_t, fb_0, fb_i, fb_b, fb_s, b_rep, asBool_bool, n_10, Nat.reduceLT, tx_s, eqD_int, eqD_str, eqD_bool, eqD_nil_int, n_10, Nat.reduceLT, n_10, Nat.reduceLT, n_10, Nat.reduceLT, n_10, Nat.reduceLT, n_10, Nat.reduceLT, n_10, Nat.reduceLT, q_ev0, q_ev1, q_ev2, q_ev3, q_ev4, q_ev5, q_ev6, q_ev7, q_ev8, q_ev9, q_ev10, q_ev11, q_ev12, q_ev13, q_ev14, q_ev15, q_ev16, q_ev17, q_ev18, q_ev19, q_ev20, q_ev21, q_ev22, q_ev23, q_ev24, q_ev25, q_ev26, q_ev27, q_ev28, q_ev29, q_ev30, q_ev31, q_ev32, q_ev33, q_ev34, q_ev35, q_ev36, q_evs0, q_evs1, q_evo0, q_evo1, q_evw0, q_evw1, q_evw2, q_evw3, q_evw4, q_evw5, q_evw6, q_evw7, q_ex0, q_ex1, q_ex2, q_ex3, q_ex4, q_ex5, q_ex6, q_ex7, q_ex8, q_ex9, q_ex10, q_ex11, q_ex12, q_ex13, q_ex14, q_ex15, q_ex16, q_ex17, q_ex18, q_ex19, q_ex20, q_ex21, q_ex22, q_ex23, q_ex24, q_ex25, q_exs0, q_exs1, q_exs2, q_exs3, n_10, Nat.reduceLT, fn_rotated_0, fn_turn_print_0, fn_cut_print_0, fn_cut_print_1, gn_check_size_0, fn_join_prints_0, fn_join_prints_1, fn_work_and_turn_0, fn_work_and_turn_1, fn_work_and_tumble_0, fn_work_and_tumble_1, fn_printing_method_0, fn__law_same_0, fn__law_print_0, fn__law_print_1, fn__law_told_0, fn__law_told_1, fn__law_wider_0, fn_law_0, fn_law_1, fn_law_2, fn_law_3, fn_law_4, fn_law_5, fn_law_6, fn_law_7, fn_law_8, dbl_map]
        rfl
      · intro r hr
        simp (implicitDefEqProofs := false) only [out_er, r_x, r_call, r_cv, r_ife, pick_c, isFn_fn, h_fld, h_var, h_non, h_bl, h_int, h_str, h_cmp, h_bo, h_nt, h_ife, h_ret, h_ifr, fld_1, cmpH_ss, cmpH_ii, par_2, par_3, f0_s, f0_i, eq_self, fl_all1, zip_1, Rs.toX_ok, Rs.toX_er, Rs.toX_st, Ot.catch_nx, Ot.catch_rt, Ot.catch_bk, Ot.catch_ct, Ot.catch_er, Ot.catch_st, Ot.then_er, Ot.turn_er, and_self, vl_v, ow_o, gt_zero, gt_succ, pt_zero, pt_succ, kil_nil, kil_cons, Rs.bind_ok, Rs.to_ok, Rs.calm_ok, Ot.then_nx, Ot.then_rt, Ot.then_bk, Ot.then_ct, Ot.turn_nx, Ot.turn_ct, Ot.turn_bk, Ot.turn_rt, chg, asInt_int, isOwn_v, isOwn_o, isOwn_none, g_nm, g_tp, g_n, g_c, List.map_cons, List.map_nil, List.length_cons, List.length_nil, List.cons_append, List.nil_append, List.replicate_succ, List.replicate_zero, Nat.reduceSub, Nat.reduceAdd, Nat.reduceLeDiff, Nat.le_refl, Nat.zero_le, Nat.sub_self, Nat.reduceEqDiff, if_true, if_false, ite_true, ite_false, Bool.false_eq_true, decide_true, decide_false, beq_self_eq_true, List.any_cons, List.any_nil, Bool.or_false, Bool.false_or, Bool.or_true, Bool.and_true, Bool.true_and, Bool.false_and, Bool.and_false, Bool.not_true, Bool.not_false, reduceIte, Int.reduceLT, Int.reduceLE, Int.reduceNeg, Int.reducePow, Int.reduceToNat, Int.reduceSub, Int.reduceAdd, Int.reduceMul, decide_eq_true_eq, Int.toNat_natCast, okR, run_eq, out_nx, out_rt, beqT, beqF, and_self, Bool.true_or, Bool.or_self, b_addi, b_adds, b_addl, b_addt, b_sub, b_mul, b_div, b_mod, b_pow, c_eq, c_ne, c_lt, c_ltt, k_mn, nd_n, nd_b, nd_i, nd_s, nd_l, nd_t, nd_0, nd_c, c_le, c_gt, c_ge, c_is0, c_isi, c_iss, c_isl, c_ist, c_isb, c_no0, c_noi, c_nos, c_nol, c_not, c_nob, c_in, c_ni, u_n, u_b, u_i, u_s, u_l, u_t, f_lenl, f_lent, f_lens, f_ll, f_lt, f_tl, f_tt, f_int, f_bool, f_str, f_max2, f_min2, f_max, f_min, f_sum, f_sumt, l_s, c_les, g_ai, z_ll, z_lt, z_tl, z_tt, min_ints, min_t, mx_ints, mx_t, s_l, s_t, l_l, l_t, a_l, e_l, j_l, j_t, m_x, isn_i, isn_b, isn_s, isn_l, isn_t, isn_n, evb1, evb2, evc0, evc1, andB1, andB2, fl_n, fl_b, fl_i, fl_s, fl_t, fb_0, fb_i, fb_b, fb_s, b_rep, asBool_bool, n_10, Nat.reduceLT, tx_s, eqD_int, eqD_str, eqD_bool, eqD_nil_int, n_10, Nat.reduceLT, n_10, Nat.reduceLT, n_10, Nat.reduceLT, n_10, Nat.reduceLT, n_10, Nat.reduceLT, n_10, Nat.reduceLT, q_ev0, q_ev1, q_ev2, q_ev3, q_ev4, q_ev5, q_ev6, q_ev7, q_ev8, q_ev9, q_ev10, q_ev11, q_ev12, q_ev13, q_ev14, q_ev15, q_ev16, q_ev17, q_ev18, q_ev19, q_ev20, q_ev21, q_ev22, q_ev23, q_ev24, q_ev25, q_ev26, q_ev27, q_ev28, q_ev29, q_ev30, q_ev31, q_ev32, q_ev33, q_ev34, q_ev35, q_ev36, q_evs0, q_evs1, q_evo0, q_evo1, q_evw0, q_evw1, q_evw2, q_evw3, q_evw4, q_evw5, q_evw6, q_evw7, q_ex0, q_ex1, q_ex2, q_ex3, q_ex4, q_ex5, q_ex6, q_ex7, q_ex8, q_ex9, q_ex10, q_ex11, q_ex12, q_ex13, q_ex14, q_ex15, q_ex16, q_ex17, q_ex18, q_ex19, q_ex20, q_ex21, q_ex22, q_ex23, q_ex24, q_ex25, q_exs0, q_exs1, q_exs2, q_exs3, n_10, Nat.reduceLT, fn_rotated_0, fn_turn_print_0, fn_cut_print_0, fn_cut_print_1, gn_check_size_0, fn_join_prints_0, fn_join_prints_1, fn_work_and_turn_0, fn_work_and_turn_1, fn_work_and_tumble_0, fn_work_and_tumble_1, fn_printing_method_0, fn__law_same_0, fn__law_print_0, fn__law_print_1, fn__law_told_0, fn__law_told_1, fn__law_wider_0, fn_law_0, fn_law_1, fn_law_2, fn_law_3, fn_law_4, fn_law_5, fn_law_6, fn_law_7, fn_law_8, add_row _ _ (z hb r hr)]
    · intro r hr
      simp (implicitDefEqProofs := false) only [out_er, r_x, r_call, r_cv, r_ife, pick_c, isFn_fn, h_fld, h_var, h_non, h_bl, h_int, h_str, h_cmp, h_bo, h_nt, h_ife, h_ret, h_ifr, fld_1, cmpH_ss, cmpH_ii, par_2, par_3, f0_s, f0_i, eq_self, fl_all1, zip_1, Rs.toX_ok, Rs.toX_er, Rs.toX_st, Ot.catch_nx, Ot.catch_rt, Ot.catch_bk, Ot.catch_ct, Ot.catch_er, Ot.catch_st, Ot.then_er, Ot.turn_er, and_self, vl_v, ow_o, gt_zero, gt_succ, pt_zero, pt_succ, kil_nil, kil_cons, Rs.bind_ok, Rs.to_ok, Rs.calm_ok, Ot.then_nx, Ot.then_rt, Ot.then_bk, Ot.then_ct, Ot.turn_nx, Ot.turn_ct, Ot.turn_bk, Ot.turn_rt, chg, asInt_int, isOwn_v, isOwn_o, isOwn_none, g_nm, g_tp, g_n, g_c, List.map_cons, List.map_nil, List.length_cons, List.length_nil, List.cons_append, List.nil_append, List.replicate_succ, List.replicate_zero, Nat.reduceSub, Nat.reduceAdd, Nat.reduceLeDiff, Nat.le_refl, Nat.zero_le, Nat.sub_self, Nat.reduceEqDiff, if_true, if_false, ite_true, ite_false, Bool.false_eq_true, decide_true, decide_false, beq_self_eq_true, List.any_cons, List.any_nil, Bool.or_false, Bool.false_or, Bool.or_true, Bool.and_true, Bool.true_and, Bool.false_and, Bool.and_false, Bool.not_true, Bool.not_false, reduceIte, Int.reduceLT, Int.reduceLE, Int.reduceNeg, Int.reducePow, Int.reduceToNat, Int.reduceSub, Int.reduceAdd, Int.reduceMul, decide_eq_true_eq, Int.toNat_natCast, okR, run_eq, out_nx, out_rt, beqT, beqF, and_self, Bool.true_or, Bool.or_self, b_addi, b_adds, b_addl, b_addt, b_sub, b_mul, b_div, b_mod, b_pow, c_eq, c_ne, c_lt, c_ltt, k_mn, nd_n, nd_b, nd_i, nd_s, nd_l, nd_t, nd_0, nd_c, c_le, c_gt, c_ge, c_is0, c_isi, c_iss, c_isl, c_ist, c_isb, c_no0, c_noi, c_nos, c_nol, c_not, c_nob, c_in, c_ni, u_n, u_b, u_i, u_s, u_l, u_t, f_lenl, f_lent, f_lens, f_ll, f_lt, f_tl, f_tt, f_int, f_bool, f_str, f_max2, f_min2, f_max, f_min, f_sum, f_sumt, l_s, c_les, g_ai, z_ll, z_lt, z_tl, z_tt, min_ints, min_t, mx_ints, mx_t, s_l, s_t, l_l, l_t, a_l, e_l, j_l, j_t, m_x, isn_i, isn_b, isn_s, isn_l, isn_t, isn_n, evb1, evb2, evc0, evc1, andB1, andB2, fl_n, fl_b, fl_i, fl_s, fl_t, fb_0, fb_i, fb_b, fb_s, b_rep, asBool_bool, n_10, Nat.reduceLT, tx_s, eqD_int, eqD_str, eqD_bool, eqD_nil_int, n_10, Nat.reduceLT, n_10, Nat.reduceLT, n_10, Nat.reduceLT, n_10, Nat.reduceLT, n_10, Nat.reduceLT, n_10, Nat.reduceLT, q_ev0, q_ev1, q_ev2, q_ev3, q_ev4, q_ev5, q_ev6, q_ev7, q_ev8, q_ev9, q_ev10, q_ev11, q_ev12, q_ev13, q_ev14, q_ev15, q_ev16, q_ev17, q_ev18, q_ev19, q_ev20, q_ev21, q_ev22, q_ev23, q_ev24, q_ev25, q_ev26, q_ev27, q_ev28, q_ev29, q_ev30, q_ev31, q_ev32, q_ev33, q_ev34, q_ev35, q_ev36, q_evs0, q_evs1, q_evo0, q_evo1, q_evw0, q_evw1, q_evw2, q_evw3, q_evw4, q_evw5, q_evw6, q_evw7, q_ex0, q_ex1, q_ex2, q_ex3, q_ex4, q_ex5, q_ex6, q_ex7, q_ex8, q_ex9, q_ex10, q_ex11, q_ex12, q_ex13, q_ex14, q_ex15, q_ex16, q_ex17, q_ex18, q_ex19, q_ex20, q_ex21, q_ex22, q_ex23, q_ex24, q_ex25, q_exs0, q_exs1, q_exs2, q_exs3, n_10, Nat.reduceLT, fn_rotated_0, fn_turn_print_0, fn_cut_print_0, fn_cut_print_1, gn_check_size_0, fn_join_prints_0, fn_join_prints_1, fn_work_and_turn_0, fn_work_and_turn_1, fn_work_and_tumble_0, fn_work_and_tumble_1, fn_printing_method_0, fn__law_same_0, fn__law_print_0, fn__law_print_1, fn__law_told_0, fn__law_told_1, fn__law_wider_0, fn_law_0, fn_law_1, fn_law_2, fn_law_3, fn_law_4, fn_law_5, fn_law_6, fn_law_7, fn_law_8, add_row _ _ (z hf r hr)]
  · refine ⟨n + n, m, f ++ f, b ++ b, by omega, by omega, app_rc hf hf, app_rc hb hb, ?_⟩
    have z1 : f.length + f.length ≤ 16777216 := by rw [hf.1]; omega
    have z2 : b.length + b.length ≤ 16777216 := by rw [hb.1]; omega
    simp (implicitDefEqProofs := false) only [out_er, r_x, r_call, r_cv, r_ife, pick_c, isFn_fn, h_fld, h_var, h_non, h_bl, h_int, h_str, h_cmp, h_bo, h_nt, h_ife, h_ret, h_ifr, fld_1, cmpH_ss, cmpH_ii, par_2, par_3, f0_s, f0_i, eq_self, fl_all1, zip_1, Rs.toX_ok, Rs.toX_er, Rs.toX_st, Ot.catch_nx, Ot.catch_rt, Ot.catch_bk, Ot.catch_ct, Ot.catch_er, Ot.catch_st, Ot.then_er, Ot.turn_er, and_self, vl_v, ow_o, gt_zero, gt_succ, pt_zero, pt_succ, kil_nil, kil_cons, Rs.bind_ok, Rs.to_ok, Rs.calm_ok, Ot.then_nx, Ot.then_rt, Ot.then_bk, Ot.then_ct, Ot.turn_nx, Ot.turn_ct, Ot.turn_bk, Ot.turn_rt, chg, asInt_int, isOwn_v, isOwn_o, isOwn_none, g_nm, g_tp, g_n, g_c, List.map_cons, List.map_nil, List.length_cons, List.length_nil, List.cons_append, List.nil_append, List.replicate_succ, List.replicate_zero, Nat.reduceSub, Nat.reduceAdd, Nat.reduceLeDiff, Nat.le_refl, Nat.zero_le, Nat.sub_self, Nat.reduceEqDiff, if_true, if_false, ite_true, ite_false, Bool.false_eq_true, decide_true, decide_false, beq_self_eq_true, List.any_cons, List.any_nil, Bool.or_false, Bool.false_or, Bool.or_true, Bool.and_true, Bool.true_and, Bool.false_and, Bool.and_false, Bool.not_true, Bool.not_false, reduceIte, Int.reduceLT, Int.reduceLE, Int.reduceNeg, Int.reducePow, Int.reduceToNat, Int.reduceSub, Int.reduceAdd, Int.reduceMul, decide_eq_true_eq, Int.toNat_natCast, okR, run_eq, out_nx, out_rt, beqT, beqF, and_self, Bool.true_or, Bool.or_self, b_addi, b_adds, b_addl, b_addt, b_sub, b_mul, b_div, b_mod, b_pow, c_eq, c_ne, c_lt, c_ltt, k_mn, nd_n, nd_b, nd_i, nd_s, nd_l, nd_t, nd_0, nd_c, c_le, c_gt, c_ge, c_is0, c_isi, c_iss, c_isl, c_ist, c_isb, c_no0, c_noi, c_nos, c_nol, c_not, c_nob, c_in, c_ni, u_n, u_b, u_i, u_s, u_l, u_t, f_lenl, f_lent, f_lens, f_ll, f_lt, f_tl, f_tt, f_int, f_bool, f_str, f_max2, f_min2, f_max, f_min, f_sum, f_sumt, l_s, c_les, g_ai, z_ll, z_lt, z_tl, z_tt, min_ints, min_t, mx_ints, mx_t, s_l, s_t, l_l, l_t, a_l, e_l, j_l, j_t, m_x, isn_i, isn_b, isn_s, isn_l, isn_t, isn_n, evb1, evb2, evc0, evc1, andB1, andB2, fl_n, fl_b, fl_i, fl_s, fl_t, fb_0, fb_i, fb_b, fb_s, b_rep, asBool_bool, n_10, Nat.reduceLT, tx_s, eqD_int, eqD_str, eqD_bool, eqD_nil_int, n_10, Nat.reduceLT, n_10, Nat.reduceLT, n_10, Nat.reduceLT, n_10, Nat.reduceLT, n_10, Nat.reduceLT, n_10, Nat.reduceLT, q_ev0, q_ev1, q_ev2, q_ev3, q_ev4, q_ev5, q_ev6, q_ev7, q_ev8, q_ev9, q_ev10, q_ev11, q_ev12, q_ev13, q_ev14, q_ev15, q_ev16, q_ev17, q_ev18, q_ev19, q_ev20, q_ev21, q_ev22, q_ev23, q_ev24, q_ev25, q_ev26, q_ev27, q_ev28, q_ev29, q_ev30, q_ev31, q_ev32, q_ev33, q_ev34, q_ev35, q_ev36, q_evs0, q_evs1, q_evo0, q_evo1, q_evw0, q_evw1, q_evw2, q_evw3, q_evw4, q_evw5, q_evw6, q_evw7, q_ex0, q_ex1, q_ex2, q_ex3, q_ex4, q_ex5, q_ex6, q_ex7, q_ex8, q_ex9, q_ex10, q_ex11, q_ex12, q_ex13, q_ex14, q_ex15, q_ex16, q_ex17, q_ex18, q_ex19, q_ex20, q_ex21, q_ex22, q_ex23, q_ex24, q_ex25, q_exs0, q_exs1, q_exs2, q_exs3, n_10, Nat.reduceLT, fn_rotated_0, fn_turn_print_0, fn_cut_print_0, fn_cut_print_1, gn_check_size_0, fn_join_prints_0, fn_join_prints_1, fn_work_and_turn_0, fn_work_and_turn_1, fn_work_and_tumble_0, fn_work_and_tumble_1, fn_printing_method_0, fn__law_same_0, fn__law_print_0, fn__law_print_1, fn__law_told_0, fn__law_told_1, fn__law_wider_0, fn_law_0, fn_law_1, fn_law_2, fn_law_3, fn_law_4, fn_law_5, fn_law_6, fn_law_7, fn_law_8, d__law_wider, ir__law_wider, c2, h3, Int.reduceEq, pr_asg, add_side _ _ z1, add_side _ _ z2]
    rfl
end
/-! ### the law -/
theorem meth_t {s : Sd} : meth (s, s) = "work and turn" := by
  unfold meth
  rw [if_pos rfl]
theorem isn_pr (p : Sd × Sd) : isnD (prD p) .tuple = true := rfl
theorem nd_pr (p : Sd × Sd) : nd (prD p) = true := rfl
theorem n_hvb : ¬ (("work and tumble" : Str) = "work and turn") := by decide
theorem law_true (ns : List Int) (hn : ns.length ≤ 63) : d_law [.list (ns.map fun i => .int i)] = .ok (.bool true) := by
  have c0 : d__law_cell [.list (ns.map fun i => .int i), .int 0] = .ok (.int (ns.getD 0 0)) := cell_eq ns 0 hn
  have c1 : d__law_cell [.list (ns.map fun i => .int i), .int (0 + 1)] = .ok (.int (ns.getD 1 0)) := cell_eq ns 1 hn
  have c2 : d__law_cell [.list (ns.map fun i => .int i), .int 2] = .ok (.int (ns.getD 2 0)) := cell_eq ns 2 hn
  obtain ⟨n0, m0, f0, b0, hn0, hm0, hf0, hb0, p0⟩ := print_ok ns 0 _ _ c0 c1
  obtain ⟨n, m, f, b, hn1, hm1, hf, hb, p1⟩ := wider_ok c2 hf0 hb0 hn0 hm0
  obtain ⟨r, g1, l1⟩ := ix_side hf hn1.1
  have lf := hf.1
  have t1 := told_v hf hb hn1 hm1.2
  have t2 := told_h hf hb hn1 hm1.2
  generalize hsD : (.list (ns.map fun i => .int i) : D) = sD at p0 p1 ⊢
  have tv := turn_v (f, b)
  have th := turn_h (f, b)
  have lt : d__law_turned_side [sideD (f ++ rot b)] = .ok (sideD (b ++ rot f)) := by rw [turned_ok, rot_app, rot_rot]
  have i0 : ∀ q : Sd × Sd, ixD (prD q) (.int 0) = .ok (sideD q.1) := fun q => rfl
  have q2 : (.tuple [prD (f, b), prD (b, f)] : D) = .tuple [prD (f, b), prD (b, f)] := rfl
  have rcF := catC_rc hf hb
  have cr : m + m ≤ 8 → d_cut_print [prD (catC f b, catC f b), .str "right", .int (m : Int)] = .ok (.tuple [prD (f, b), prD (b, f)]) := fun _ => by
    have cp := cp_right (b := catC f b) rcF hn1.1 (line := (m : Int)) (by omega)
    have em : ((m + m : Nat) : Int) - (m : Int) = (m : Int) := by omega
    rw [em, catC_l hf hb, catC_r hf hb] at cp
    exact cp
  have rcG := app_rc hf (rot_rc hb)
  have cb : d_cut_print [prD (f ++ rot b, b ++ rot f), .str "bottom", .int (n : Int)] = .ok (.tuple [prD (f, b), prD (rot b, rot f)]) := by
    have cp := cp_bottom (b := b ++ rot f) rcG (line := (n : Int)) (by omega)
    have em : ((n + n : Nat) : Int) - (n : Int) = (n : Int) := by omega
    rw [em, app_l hf (rot_rc hb), app_r hf (rot_rc hb), app_l hb (rot_rc hf), app_r hb (rot_rc hf)] at cp
    exact cp
  have me : meth (f ++ rot b, b ++ rot f) = if f ++ rot b = b ++ rot f then ("work and turn" : Str) else "work and tumble" := by
    have hr : b ++ rot f = rot (f ++ rot b) := by rw [rot_app, rot_rot]
    show (if b ++ rot f = f ++ rot b then ("work and turn" : Str) else if b ++ rot f = rot (f ++ rot b) then "work and tumble" else "sheetwise") = _
    by_cases h : b ++ rot f = f ++ rot b
    · rw [if_pos h, if_pos h.symm]
    · rw [if_neg h, if_pos hr, if_neg (fun z => h z.symm)]
  have second : ∀ x4 : Option Sl, exs c_law (dropS 4 ir_law) [some (.v sD), some (.v (prD (f, b))), some (.v (.int (n : Int))), some (.v (.int (m : Int))), x4] = .rt (.bool true) := fun x4 => by
    by_cases k : n + n ≤ 8
    · rw [if_pos k] at t2
      have k4 : decide ((4 : Int) < (n : Int)) = false := decide_eq_false (by omega)
      by_cases h : f ++ rot b = b ++ rot f
      · rw [if_pos h] at me
        have e1 : decide (f ++ rot b = b ++ rot f) = true := decide_eq_true h
        simp (implicitDefEqProofs := false) only [out_er, r_x, r_call, r_cv, r_ife, pick_c, isFn_fn, h_fld, h_var, h_non, h_bl, h_int, h_str, h_cmp, h_bo, h_nt, h_ife, h_ret, h_ifr, fld_1, cmpH_ss, cmpH_ii, par_2, par_3, f0_s, f0_i, eq_self, fl_all1, zip_1, Rs.toX_ok, Rs.toX_er, Rs.toX_st, Ot.catch_nx, Ot.catch_rt, Ot.catch_bk, Ot.catch_ct, Ot.catch_er, Ot.catch_st, Ot.then_er, Ot.turn_er, and_self, vl_v, ow_o, gt_zero, gt_succ, pt_zero, pt_succ, kil_nil, kil_cons, Rs.bind_ok, Rs.to_ok, Rs.calm_ok, Ot.then_nx, Ot.then_rt, Ot.then_bk, Ot.then_ct, Ot.turn_nx, Ot.turn_ct, Ot.turn_bk, Ot.turn_rt, chg, asInt_int, isOwn_v, isOwn_o, isOwn_none, g_nm, g_tp, g_n, g_c, List.map_cons, List.map_nil, List.length_cons, List.length_nil, List.cons_append, List.nil_append, List.replicate_succ, List.replicate_zero, Nat.reduceSub, Nat.reduceAdd, Nat.reduceLeDiff, Nat.le_refl, Nat.zero_le, Nat.sub_self, Nat.reduceEqDiff, if_true, if_false, ite_true, ite_false, Bool.false_eq_true, decide_true, decide_false, beq_self_eq_true, List.any_cons, List.any_nil, Bool.or_false, Bool.false_or, Bool.or_true, Bool.and_true, Bool.true_and, Bool.false_and, Bool.and_false, Bool.not_true, Bool.not_false, reduceIte, Int.reduceLT, Int.reduceLE, Int.reduceNeg, Int.reducePow, Int.reduceToNat, Int.reduceSub, Int.reduceAdd, Int.reduceMul, decide_eq_true_eq, Int.toNat_natCast, okR, run_eq, out_nx, out_rt, beqT, beqF, and_self, Bool.true_or, Bool.or_self, b_addi, b_adds, b_addl, b_addt, b_sub, b_mul, b_div, b_mod, b_pow, c_eq, c_ne, c_lt, c_ltt, k_mn, nd_n, nd_b, nd_i, nd_s, nd_l, nd_t, nd_0, nd_c, c_le, c_gt, c_ge, c_is0, c_isi, c_iss, c_isl, c_ist, c_isb, c_no0, c_noi, c_nos, c_nol, c_not, c_nob, c_in, c_ni, u_n, u_b, u_i, u_s, u_l, u_t, f_lenl, f_lent, f_lens, f_ll, f_lt, f_tl, f_tt, f_int, f_bool, f_str, f_max2, f_min2, f_max, f_min, f_sum, f_sumt, l_s, c_les, g_ai, z_ll, z_lt, z_tl, z_tt, min_ints, min_t, mx_ints, mx_t, s_l, s_t, l_l, l_t, a_l, e_l, j_l, j_t, m_x, isn_i, isn_b, isn_s, isn_l, isn_t, isn_n, evb1, evb2, evc0, evc1, andB1, andB2, fl_n, fl_b, fl_i, fl_s, fl_t, fb_0, fb_i, fb_b, fb_s, b_rep, asBool_bool, n_10, Nat.reduceLT, tx_s, eqD_int, eqD_str, eqD_bool, eqD_nil_int, n_10, Nat.reduceLT, n_10, Nat.reduceLT, n_10, Nat.reduceLT, n_10, Nat.reduceLT, n_10, Nat.reduceLT, n_10, Nat.reduceLT, q_ev0, q_ev1, q_ev2, q_ev3, q_ev4, q_ev5, q_ev6, q_ev7, q_ev8, q_ev9, q_ev10, q_ev11, q_ev12, q_ev13, q_ev14, q_ev15, q_ev16, q_ev17, q_ev18, q_ev19, q_ev20, q_ev21, q_ev22, q_ev23, q_ev24, q_ev25, q_ev26, q_ev27, q_ev28, q_ev29, q_ev30, q_ev31, q_ev32, q_ev33, q_ev34, q_ev35, q_ev36, q_evs0, q_evs1, q_evo0, q_evo1, q_evw0, q_evw1, q_evw2, q_evw3, q_evw4, q_evw5, q_evw6, q_evw7, q_ex0, q_ex1, q_ex2, q_ex3, q_ex4, q_ex5, q_ex6, q_ex7, q_ex8, q_ex9, q_ex10, q_ex11, q_ex12, q_ex13, q_ex14, q_ex15, q_ex16, q_ex17, q_ex18, q_ex19, q_ex20, q_ex21, q_ex22, q_ex23, q_ex24, q_ex25, q_exs0, q_exs1, q_exs2, q_exs3, n_10, Nat.reduceLT, fn_rotated_0, fn_turn_print_0, fn_cut_print_0, fn_cut_print_1, gn_check_size_0, fn_join_prints_0, fn_join_prints_1, fn_work_and_turn_0, fn_work_and_turn_1, fn_work_and_tumble_0, fn_work_and_tumble_1, fn_printing_method_0, fn__law_same_0, fn__law_print_0, fn__law_print_1, fn__law_told_0, fn__law_told_1, fn__law_wider_0, fn_law_0, fn_law_1, fn_law_2, fn_law_3, fn_law_4, fn_law_5, fn_law_6, fn_law_7, fn_law_8, dropS, ir_law, t2, k4, isn_pr, nd_pr, ix_pr0, ix_pr1, lt, eqD_side, meth_ok, me, e1, th, cb, eqD_two]
      · rw [if_neg h] at me
        have e1 : decide (f ++ rot b = b ++ rot f) = false := decide_eq_false h
        simp (implicitDefEqProofs := false) only [out_er, r_x, r_call, r_cv, r_ife, pick_c, isFn_fn, h_fld, h_var, h_non, h_bl, h_int, h_str, h_cmp, h_bo, h_nt, h_ife, h_ret, h_ifr, fld_1, cmpH_ss, cmpH_ii, par_2, par_3, f0_s, f0_i, eq_self, fl_all1, zip_1, Rs.toX_ok, Rs.toX_er, Rs.toX_st, Ot.catch_nx, Ot.catch_rt, Ot.catch_bk, Ot.catch_ct, Ot.catch_er, Ot.catch_st, Ot.then_er, Ot.turn_er, and_self, vl_v, ow_o, gt_zero, gt_succ, pt_zero, pt_succ, kil_nil, kil_cons, Rs.bind_ok, Rs.to_ok, Rs.calm_ok, Ot.then_nx, Ot.then_rt, Ot.then_bk, Ot.then_ct, Ot.turn_nx, Ot.turn_ct, Ot.turn_bk, Ot.turn_rt, chg, asInt_int, isOwn_v, isOwn_o, isOwn_none, g_nm, g_tp, g_n, g_c, List.map_cons, List.map_nil, List.length_cons, List.length_nil, List.cons_append, List.nil_append, List.replicate_succ, List.replicate_zero, Nat.reduceSub, Nat.reduceAdd, Nat.reduceLeDiff, Nat.le_refl, Nat.zero_le, Nat.sub_self, Nat.reduceEqDiff, if_true, if_false, ite_true, ite_false, Bool.false_eq_true, decide_true, decide_false, beq_self_eq_true, List.any_cons, List.any_nil, Bool.or_false, Bool.false_or, Bool.or_true, Bool.and_true, Bool.true_and, Bool.false_and, Bool.and_false, Bool.not_true, Bool.not_false, reduceIte, Int.reduceLT, Int.reduceLE, Int.reduceNeg, Int.reducePow, Int.reduceToNat, Int.reduceSub, Int.reduceAdd, Int.reduceMul, decide_eq_true_eq, Int.toNat_natCast, okR, run_eq, out_nx, out_rt, beqT, beqF, and_self, Bool.true_or, Bool.or_self, b_addi, b_adds, b_addl, b_addt, b_sub, b_mul, b_div, b_mod, b_pow, c_eq, c_ne, c_lt, c_ltt, k_mn, nd_n, nd_b, nd_i, nd_s, nd_l, nd_t, nd_0, nd_c, c_le, c_gt, c_ge, c_is0, c_isi, c_iss, c_isl, c_ist, c_isb, c_no0, c_noi, c_nos, c_nol, c_not, c_nob, c_in, c_ni, u_n, u_b, u_i, u_s, u_l, u_t, f_lenl, f_lent, f_lens, f_ll, f_lt, f_tl, f_tt, f_int, f_bool, f_str, f_max2, f_min2, f_max, f_min, f_sum, f_sumt, l_s, c_les, g_ai, z_ll, z_lt, z_tl, z_tt, min_ints, min_t, mx_ints, mx_t, s_l, s_t, l_l, l_t, a_l, e_l, j_l, j_t, m_x, isn_i, isn_b, isn_s, isn_l, isn_t, isn_n, evb1, evb2, evc0, evc1, andB1, andB2, fl_n, fl_b, fl_i, fl_s, fl_t, fb_0, fb_i, fb_b, fb_s, b_rep, asBool_bool, n_10, Nat.reduceLT, tx_s, eqD_int, eqD_str, eqD_bool, eqD_nil_int, n_10, Nat.reduceLT, n_10, Nat.reduceLT, n_10, Nat.reduceLT, n_10, Nat.reduceLT, n_10, Nat.reduceLT, n_10, Nat.reduceLT, q_ev0, q_ev1, q_ev2, q_ev3, q_ev4, q_ev5, q_ev6, q_ev7, q_ev8, q_ev9, q_ev10, q_ev11, q_ev12, q_ev13, q_ev14, q_ev15, q_ev16, q_ev17, q_ev18, q_ev19, q_ev20, q_ev21, q_ev22, q_ev23, q_ev24, q_ev25, q_ev26, q_ev27, q_ev28, q_ev29, q_ev30, q_ev31, q_ev32, q_ev33, q_ev34, q_ev35, q_ev36, q_evs0, q_evs1, q_evo0, q_evo1, q_evw0, q_evw1, q_evw2, q_evw3, q_evw4, q_evw5, q_evw6, q_evw7, q_ex0, q_ex1, q_ex2, q_ex3, q_ex4, q_ex5, q_ex6, q_ex7, q_ex8, q_ex9, q_ex10, q_ex11, q_ex12, q_ex13, q_ex14, q_ex15, q_ex16, q_ex17, q_ex18, q_ex19, q_ex20, q_ex21, q_ex22, q_ex23, q_ex24, q_ex25, q_exs0, q_exs1, q_exs2, q_exs3, n_10, Nat.reduceLT, fn_rotated_0, fn_turn_print_0, fn_cut_print_0, fn_cut_print_1, gn_check_size_0, fn_join_prints_0, fn_join_prints_1, fn_work_and_turn_0, fn_work_and_turn_1, fn_work_and_tumble_0, fn_work_and_tumble_1, fn_printing_method_0, fn__law_same_0, fn__law_print_0, fn__law_print_1, fn__law_told_0, fn__law_told_1, fn__law_wider_0, fn_law_0, fn_law_1, fn_law_2, fn_law_3, fn_law_4, fn_law_5, fn_law_6, fn_law_7, fn_law_8, dropS, ir_law, t2, k4, isn_pr, nd_pr, ix_pr0, ix_pr1, lt, eqD_side, meth_ok, me, e1, th, cb, eqD_two]
    · rw [if_neg k] at t2
      have k4 : decide ((4 : Int) < (n : Int)) = true := decide_eq_true (by omega)
      simp (implicitDefEqProofs := false) only [out_er, r_x, r_call, r_cv, r_ife, pick_c, isFn_fn, h_fld, h_var, h_non, h_bl, h_int, h_str, h_cmp, h_bo, h_nt, h_ife, h_ret, h_ifr, fld_1, cmpH_ss, cmpH_ii, par_2, par_3, f0_s, f0_i, eq_self, fl_all1, zip_1, Rs.toX_ok, Rs.toX_er, Rs.toX_st, Ot.catch_nx, Ot.catch_rt, Ot.catch_bk, Ot.catch_ct, Ot.catch_er, Ot.catch_st, Ot.then_er, Ot.turn_er, and_self, vl_v, ow_o, gt_zero, gt_succ, pt_zero, pt_succ, kil_nil, kil_cons, Rs.bind_ok, Rs.to_ok, Rs.calm_ok, Ot.then_nx, Ot.then_rt, Ot.then_bk, Ot.then_ct, Ot.turn_nx, Ot.turn_ct, Ot.turn_bk, Ot.turn_rt, chg, asInt_int, isOwn_v, isOwn_o, isOwn_none, g_nm, g_tp, g_n, g_c, List.map_cons, List.map_nil, List.length_cons, List.length_nil, List.cons_append, List.nil_append, List.replicate_succ, List.replicate_zero, Nat.reduceSub, Nat.reduceAdd, Nat.reduceLeDiff, Nat.le_refl, Nat.zero_le, Nat.sub_self, Nat.reduceEqDiff, if_true, if_false, ite_true, ite_false, Bool.false_eq_true, decide_true, decide_false, beq_self_eq_true, List.any_cons, List.any_nil, Bool.or_false, Bool.false_or, Bool.or_true, Bool.and_true, Bool.true_and, Bool.false_and, Bool.and_false, Bool.not_true, Bool.not_false, reduceIte, Int.reduceLT, Int.reduceLE, Int.reduceNeg, Int.reducePow, Int.reduceToNat, Int.reduceSub, Int.reduceAdd, Int.reduceMul, decide_eq_true_eq, Int.toNat_natCast, okR, run_eq, out_nx, out_rt, beqT, beqF, and_self, Bool.true_or, Bool.or_self, b_addi, b_adds, b_addl, b_addt, b_sub, b_mul, b_div, b_mod, b_pow, c_eq, c_ne, c_lt, c_ltt, k_mn, nd_n, nd_b, nd_i, nd_s, nd_l, nd_t, nd_0, nd_c, c_le, c_gt, c_ge, c_is0, c_isi, c_iss, c_isl, c_ist, c_isb, c_no0, c_noi, c_nos, c_nol, c_not, c_nob, c_in, c_ni, u_n, u_b, u_i, u_s, u_l, u_t, f_lenl, f_lent, f_lens, f_ll, f_lt, f_tl, f_tt, f_int, f_bool, f_str, f_max2, f_min2, f_max, f_min, f_sum, f_sumt, l_s, c_les, g_ai, z_ll, z_lt, z_tl, z_tt, min_ints, min_t, mx_ints, mx_t, s_l, s_t, l_l, l_t, a_l, e_l, j_l, j_t, m_x, isn_i, isn_b, isn_s, isn_l, isn_t, isn_n, evb1, evb2, evc0, evc1, andB1, andB2, fl_n, fl_b, fl_i, fl_s, fl_t, fb_0, fb_i, fb_b, fb_s, b_rep, asBool_bool, n_10, Nat.reduceLT, tx_s, eqD_int, eqD_str, eqD_bool, eqD_nil_int, n_10, Nat.reduceLT, n_10, Nat.reduceLT, n_10, Nat.reduceLT, n_10, Nat.reduceLT, n_10, Nat.reduceLT, n_10, Nat.reduceLT, q_ev0, q_ev1, q_ev2, q_ev3, q_ev4, q_ev5, q_ev6, q_ev7, q_ev8, q_ev9, q_ev10, q_ev11, q_ev12, q_ev13, q_ev14, q_ev15, q_ev16, q_ev17, q_ev18, q_ev19, q_ev20, q_ev21, q_ev22, q_ev23, q_ev24, q_ev25, q_ev26, q_ev27, q_ev28, q_ev29, q_ev30, q_ev31, q_ev32, q_ev33, q_ev34, q_ev35, q_ev36, q_evs0, q_evs1, q_evo0, q_evo1, q_evw0, q_evw1, q_evw2, q_evw3, q_evw4, q_evw5, q_evw6, q_evw7, q_ex0, q_ex1, q_ex2, q_ex3, q_ex4, q_ex5, q_ex6, q_ex7, q_ex8, q_ex9, q_ex10, q_ex11, q_ex12, q_ex13, q_ex14, q_ex15, q_ex16, q_ex17, q_ex18, q_ex19, q_ex20, q_ex21, q_ex22, q_ex23, q_ex24, q_ex25, q_exs0, q_exs1, q_exs2, q_exs3, n_10, Nat.reduceLT, fn_rotated_0, fn_turn_print_0, fn_cut_print_0, fn_cut_print_1, gn_check_size_0, fn_join_prints_0, fn_join_prints_1, fn_work_and_turn_0, fn_work_and_turn_1, fn_work_and_tumble_0, fn_work_and_tumble_1, fn_printing_method_0, fn__law_same_0, fn__law_print_0, fn__law_print_1, fn__law_told_0, fn__law_told_1, fn__law_wider_0, fn_law_0, fn_law_1, fn_law_2, fn_law_3, fn_law_4, fn_law_5, fn_law_6, fn_law_7, fn_law_8, dropS, ir_law, t2, k4]
  have first : ∃ x4, exs c_law (takeS 4 ir_law) (some (.v sD) :: List.replicate 4 none) = .nx [some (.v sD), some (.v (prD (f, b))), some (.v (.int (n : Int))), some (.v (.int (m : Int))), x4] := by
    by_cases k : m + m ≤ 8
    · rw [if_pos k] at t1
      have k4 : decide ((4 : Int) < (m : Int)) = false := decide_eq_false (by omega)
      have cr := cr k
      refine ⟨some (.v (prD (catC f b, catC f b))), ?_⟩
      simp (implicitDefEqProofs := false) only [out_er, r_x, r_call, r_cv, r_ife, pick_c, isFn_fn, h_fld, h_var, h_non, h_bl, h_int, h_str, h_cmp, h_bo, h_nt, h_ife, h_ret, h_ifr, fld_1, cmpH_ss, cmpH_ii, par_2, par_3, f0_s, f0_i, eq_self, fl_all1, zip_1, Rs.toX_ok, Rs.toX_er, Rs.toX_st, Ot.catch_nx, Ot.catch_rt, Ot.catch_bk, Ot.catch_ct, Ot.catch_er, Ot.catch_st, Ot.then_er, Ot.turn_er, and_self, vl_v, ow_o, gt_zero, gt_succ, pt_zero, pt_succ, kil_nil, kil_cons, Rs.bind_ok, Rs.to_ok, Rs.calm_ok, Ot.then_nx, Ot.then_rt, Ot.then_bk, Ot.then_ct, Ot.turn_nx, Ot.turn_ct, Ot.turn_bk, Ot.turn_rt, chg, asInt_int, isOwn_v, isOwn_o, isOwn_none, g_nm, g_tp, g_n, g_c, List.map_cons, List.map_nil, List.length_cons, List.length_nil, List.cons_append, List.nil_append, List.replicate_succ, List.replicate_zero, Nat.reduceSub, Nat.reduceAdd, Nat.reduceLeDiff, Nat.le_refl, Nat.zero_le, Nat.sub_self, Nat.reduceEqDiff, if_true, if_false, ite_true, ite_false, Bool.false_eq_true, decide_true, decide_false, beq_self_eq_true, List.any_cons, List.any_nil, Bool.or_false, Bool.false_or, Bool.or_true, Bool.and_true, Bool.true_and, Bool.false_and, Bool.and_false, Bool.not_true, Bool.not_false, reduceIte, Int.reduceLT, Int.reduceLE, Int.reduceNeg, Int.reducePow, Int.reduceToNat, Int.reduceSub, Int.reduceAdd, Int.reduceMul, decide_eq_true_eq, Int.toNat_natCast, okR, run_eq, out_nx, out_rt, beqT, beqF, and_self, Bool.true_or, Bool.or_self, b_addi, b_adds, b_addl, b_addt, b_sub, b_mul, b_div, b_mod, b_pow, c_eq, c_ne, c_lt, c_ltt, k_mn, nd_n, nd_b, nd_i, nd_s, nd_l, nd_t, nd_0, nd_c, c_le, c_gt, c_ge, c_is0, c_isi, c_iss, c_isl, c_ist, c_isb, c_no0, c_noi, c_nos, c_nol, c_not, c_nob, c_in, c_ni, u_n, u_b, u_i, u_s, u_l, u_t, f_lenl, f_lent, f_lens, f_ll, f_lt, f_tl, f_tt, f_int, f_bool, f_str, f_max2, f_min2, f_max, f_min, f_sum, f_sumt, l_s, c_les, g_ai, z_ll, z_lt, z_tl, z_tt, min_ints, min_t, mx_ints, mx_t, s_l, s_t, l_l, l_t, a_l, e_l, j_l, j_t, m_x, isn_i, isn_b, isn_s, isn_l, isn_t, isn_n, evb1, evb2, evc0, evc1, andB1, andB2, fl_n, fl_b, fl_i, fl_s, fl_t, fb_0, fb_i, fb_b, fb_s, b_rep, asBool_bool, n_10, Nat.reduceLT, tx_s, eqD_int, eqD_str, eqD_bool, eqD_nil_int, n_10, Nat.reduceLT, n_10, Nat.reduceLT, n_10, Nat.reduceLT, n_10, Nat.reduceLT, n_10, Nat.reduceLT, n_10, Nat.reduceLT, q_ev0, q_ev1, q_ev2, q_ev3, q_ev4, q_ev5, q_ev6, q_ev7, q_ev8, q_ev9, q_ev10, q_ev11, q_ev12, q_ev13, q_ev14, q_ev15, q_ev16, q_ev17, q_ev18, q_ev19, q_ev20, q_ev21, q_ev22, q_ev23, q_ev24, q_ev25, q_ev26, q_ev27, q_ev28, q_ev29, q_ev30, q_ev31, q_ev32, q_ev33, q_ev34, q_ev35, q_ev36, q_evs0, q_evs1, q_evo0, q_evo1, q_evw0, q_evw1, q_evw2, q_evw3, q_evw4, q_evw5, q_evw6, q_evw7, q_ex0, q_ex1, q_ex2, q_ex3, q_ex4, q_ex5, q_ex6, q_ex7, q_ex8, q_ex9, q_ex10, q_ex11, q_ex12, q_ex13, q_ex14, q_ex15, q_ex16, q_ex17, q_ex18, q_ex19, q_ex20, q_ex21, q_ex22, q_ex23, q_ex24, q_ex25, q_exs0, q_exs1, q_exs2, q_exs3, n_10, Nat.reduceLT, fn_rotated_0, fn_turn_print_0, fn_cut_print_0, fn_cut_print_1, gn_check_size_0, fn_join_prints_0, fn_join_prints_1, fn_work_and_turn_0, fn_work_and_turn_1, fn_work_and_tumble_0, fn_work_and_tumble_1, fn_printing_method_0, fn__law_same_0, fn__law_print_0, fn__law_print_1, fn__law_told_0, fn__law_told_1, fn__law_wider_0, fn_law_0, fn_law_1, fn_law_2, fn_law_3, fn_law_4, fn_law_5, fn_law_6, fn_law_7, fn_law_8, takeS, ir_law, p0, p1, ix_pr0, ix_pr1, len_side, lf, g1, len_row, l1, t1, k4, isn_pr, nd_pr, eqD_side, meth_ok, meth_t, cr, tv, eqD_two]
    · rw [if_neg k] at t1
      have k4 : decide ((4 : Int) < (m : Int)) = true := decide_eq_true (by omega)
      refine ⟨some (.v (.str "print is too large")), ?_⟩
      simp (implicitDefEqProofs := false) only [out_er, r_x, r_call, r_cv, r_ife, pick_c, isFn_fn, h_fld, h_var, h_non, h_bl, h_int, h_str, h_cmp, h_bo, h_nt, h_ife, h_ret, h_ifr, fld_1, cmpH_ss, cmpH_ii, par_2, par_3, f0_s, f0_i, eq_self, fl_all1, zip_1, Rs.toX_ok, Rs.toX_er, Rs.toX_st, Ot.catch_nx, Ot.catch_rt, Ot.catch_bk, Ot.catch_ct, Ot.catch_er, Ot.catch_st, Ot.then_er, Ot.turn_er, and_self, vl_v, ow_o, gt_zero, gt_succ, pt_zero, pt_succ, kil_nil, kil_cons, Rs.bind_ok, Rs.to_ok, Rs.calm_ok, Ot.then_nx, Ot.then_rt, Ot.then_bk, Ot.then_ct, Ot.turn_nx, Ot.turn_ct, Ot.turn_bk, Ot.turn_rt, chg, asInt_int, isOwn_v, isOwn_o, isOwn_none, g_nm, g_tp, g_n, g_c, List.map_cons, List.map_nil, List.length_cons, List.length_nil, List.cons_append, List.nil_append, List.replicate_succ, List.replicate_zero, Nat.reduceSub, Nat.reduceAdd, Nat.reduceLeDiff, Nat.le_refl, Nat.zero_le, Nat.sub_self, Nat.reduceEqDiff, if_true, if_false, ite_true, ite_false, Bool.false_eq_true, decide_true, decide_false, beq_self_eq_true, List.any_cons, List.any_nil, Bool.or_false, Bool.false_or, Bool.or_true, Bool.and_true, Bool.true_and, Bool.false_and, Bool.and_false, Bool.not_true, Bool.not_false, reduceIte, Int.reduceLT, Int.reduceLE, Int.reduceNeg, Int.reducePow, Int.reduceToNat, Int.reduceSub, Int.reduceAdd, Int.reduceMul, decide_eq_true_eq, Int.toNat_natCast, okR, run_eq, out_nx, out_rt, beqT, beqF, and_self, Bool.true_or, Bool.or_self, b_addi, b_adds, b_addl, b_addt, b_sub, b_mul, b_div, b_mod, b_pow, c_eq, c_ne, c_lt, c_ltt, k_mn, nd_n, nd_b, nd_i, nd_s, nd_l, nd_t, nd_0, nd_c, c_le, c_gt, c_ge, c_is0, c_isi, c_iss, c_isl, c_ist, c_isb, c_no0, c_noi, c_nos, c_nol, c_not, c_nob, c_in, c_ni, u_n, u_b, u_i, u_s, u_l, u_t, f_lenl, f_lent, f_lens, f_ll, f_lt, f_tl, f_tt, f_int, f_bool, f_str, f_max2, f_min2, f_max, f_min, f_sum, f_sumt, l_s, c_les, g_ai, z_ll, z_lt, z_tl, z_tt, min_ints, min_t, mx_ints, mx_t, s_l, s_t, l_l, l_t, a_l, e_l, j_l, j_t, m_x, isn_i, isn_b, isn_s, isn_l, isn_t, isn_n, evb1, evb2, evc0, evc1, andB1, andB2, fl_n, fl_b, fl_i, fl_s, fl_t, fb_0, fb_i, fb_b, fb_s, b_rep, asBool_bool, n_10, Nat.reduceLT, tx_s, eqD_int, eqD_str, eqD_bool, eqD_nil_int, n_10, Nat.reduceLT, n_10, Nat.reduceLT, n_10, Nat.reduceLT, n_10, Nat.reduceLT, n_10, Nat.reduceLT, n_10, Nat.reduceLT, q_ev0, q_ev1, q_ev2, q_ev3, q_ev4, q_ev5, q_ev6, q_ev7, q_ev8, q_ev9, q_ev10, q_ev11, q_ev12, q_ev13, q_ev14, q_ev15, q_ev16, q_ev17, q_ev18, q_ev19, q_ev20, q_ev21, q_ev22, q_ev23, q_ev24, q_ev25, q_ev26, q_ev27, q_ev28, q_ev29, q_ev30, q_ev31, q_ev32, q_ev33, q_ev34, q_ev35, q_ev36, q_evs0, q_evs1, q_evo0, q_evo1, q_evw0, q_evw1, q_evw2, q_evw3, q_evw4, q_evw5, q_evw6, q_evw7, q_ex0, q_ex1, q_ex2, q_ex3, q_ex4, q_ex5, q_ex6, q_ex7, q_ex8, q_ex9, q_ex10, q_ex11, q_ex12, q_ex13, q_ex14, q_ex15, q_ex16, q_ex17, q_ex18, q_ex19, q_ex20, q_ex21, q_ex22, q_ex23, q_ex24, q_ex25, q_exs0, q_exs1, q_exs2, q_exs3, n_10, Nat.reduceLT, fn_rotated_0, fn_turn_print_0, fn_cut_print_0, fn_cut_print_1, gn_check_size_0, fn_join_prints_0, fn_join_prints_1, fn_work_and_turn_0, fn_work_and_turn_1, fn_work_and_tumble_0, fn_work_and_tumble_1, fn_printing_method_0, fn__law_same_0, fn__law_print_0, fn__law_print_1, fn__law_told_0, fn__law_told_1, fn__law_wider_0, fn_law_0, fn_law_1, fn_law_2, fn_law_3, fn_law_4, fn_law_5, fn_law_6, fn_law_7, fn_law_8, takeS, ir_law, p0, p1, ix_pr0, ix_pr1, len_side, lf, g1, len_row, l1, t1, k4]
  obtain ⟨x4, first⟩ := first
  unfold d_law
  rw [run_eq, if_pos (show [sD].length ≤ 5 from (by decide : (1 : Nat) ≤ 5))]
  show (exs c_law ir_law (some (.v sD) :: List.replicate 4 none)).out = _
  rw [exs_cut c_law 4 ir_law _ rfl, first, Ot.then_nx, second]
  rfl
end Bk
namespace Bk
abbrev PR : Program := PySem.Challenge.pw_boundbook_k57_work_and_turn
def top (i : Nat) : Stmt := PR.main.body.getD i (.Pass ⟨0, 0, 0, 0⟩)
def xcs : List (Str × List Str) := [("Refused", ["what"])]
def xd_Refused : XcD := ⟨"Refused", ["what"], "Refused.__init__", defArgs (initOf (top 2)), defBody (initOf (top 2)), defScope (initOf (top 2))⟩
def xds : List XcD := [xd_Refused]
theorem ck_rotated_mark : ckSs ⟨nm_rotated_mark, defScope (top 5), [], [], true, xcs⟩ ir_rotated_mark (defBody (top 5)) = true := by decide +kernel
theorem sc_rotated_mark : FnScope nm_rotated_mark ["mark"] (defScope (top 5)) := ⟨rfl, rfl, rfl, by decide +kernel, rfl, by decide +kernel, by decide +kernel⟩
def dd_rotated_mark : He.DefD := ⟨("rotated_mark", none), "rotated_mark", "rotated_mark", defArgs (top 5), defBody (top 5), defScope (top 5), [], []⟩
theorem ck_rotated : ckSs ⟨nm_rotated, defScope (top 6), [("rotated_mark", 1)], [], true, xcs⟩ ir_rotated (defBody (top 6)) = true := by decide +kernel
theorem sc_rotated : FnScope nm_rotated ["side"] (defScope (top 6)) := ⟨rfl, rfl, rfl, by decide +kernel, rfl, by decide +kernel, by decide +kernel⟩
def dd_rotated : He.DefD := ⟨("rotated", none), "rotated", "rotated", defArgs (top 6), defBody (top 6), defScope (top 6), [], []⟩
theorem ck_turn_print : ckSs ⟨nm_turn_print, defScope (top 7), [("rotated", 1)], [], true, xcs⟩ ir_turn_print (defBody (top 7)) = true := by decide +kernel
theorem sc_turn_print : FnScope nm_turn_print ["sheet", "axis"] (defScope (top 7)) := ⟨rfl, rfl, rfl, by decide +kernel, rfl, by decide +kernel, by decide +kernel⟩
def dd_turn_print : He.DefD := ⟨("turn_print", none), "turn_print", "turn_print", defArgs (top 7), defBody (top 7), defScope (top 7), [], []⟩
theorem ck_part_of_columns : ckSs ⟨nm_part_of_columns, defScope (top 8), [], [], true, xcs⟩ ir_part_of_columns (defBody (top 8)) = true := by decide +kernel
theorem sc_part_of_columns : FnScope nm_part_of_columns ["sheet", "first", "behind"] (defScope (top 8)) := ⟨rfl, rfl, rfl, by decide +kernel, rfl, by decide +kernel, by decide +kernel⟩
def dd_part_of_columns : He.DefD := ⟨("part_of_columns", none), "part_of_columns", "part_of_columns", defArgs (top 8), defBody (top 8), defScope (top 8), [], []⟩
theorem ck_part_of_rows : ckSs ⟨nm_part_of_rows, defScope (top 9), [], [], true, xcs⟩ ir_part_of_rows (defBody (top 9)) = true := by decide +kernel
theorem sc_part_of_rows : FnScope nm_part_of_rows ["sheet", "first", "behind"] (defScope (top 9)) := ⟨rfl, rfl, rfl, by decide +kernel, rfl, by decide +kernel, by decide +kernel⟩
def dd_part_of_rows : He.DefD := ⟨("part_of_rows", none), "part_of_rows", "part_of_rows", defArgs (top 9), defBody (top 9), defScope (top 9), [], []⟩
theorem ck_cut_print : ckSs ⟨nm_cut_print, defScope (top 10), [("part_of_columns", 3), ("part_of_rows", 3)], [], true, xcs⟩ ir_cut_print (defBody (top 10)) = true := by decide +kernel
theorem sc_cut_print : FnScope nm_cut_print ["sheet", "edge", "line"] (defScope (top 10)) := ⟨rfl, rfl, rfl, by decide +kernel, rfl, by decide +kernel, by decide +kernel⟩
def dd_cut_print : He.DefD := ⟨("cut_print", none), "cut_print", "cut_print", defArgs (top 10), defBody (top 10), defScope (top 10), [], []⟩
theorem ck_joined : ckSs ⟨nm_joined, defScope (top 11), [], [], true, xcs⟩ ir_joined (defBody (top 11)) = true := by decide +kernel
theorem sc_joined : FnScope nm_joined ["first", "second", "axis"] (defScope (top 11)) := ⟨rfl, rfl, rfl, by decide +kernel, rfl, by decide +kernel, by decide +kernel⟩
def dd_joined : He.DefD := ⟨("joined", none), "joined", "joined", defArgs (top 11), defBody (top 11), defScope (top 11), [], []⟩
theorem ck_check_size : ckSs ⟨nm_check_size, defScope (top 12), [], ["SIDE_MOST"], true, xcs⟩ ir_check_size (defBody (top 12)) = true := by decide +kernel
theorem sc_check_size : FnScope nm_check_size ["sheet"] (defScope (top 12)) := ⟨rfl, rfl, rfl, by decide +kernel, rfl, by decide +kernel, by decide +kernel⟩
def dd_check_size : He.DefD := ⟨("check_size", none), "check_size", "check_size", defArgs (top 12), defBody (top 12), defScope (top 12), [], []⟩
theorem ck_join_prints : ckSs ⟨nm_join_prints, defScope (top 13), [("joined", 3), ("check_size", 1)], [], true, xcs⟩ ir_join_prints (defBody (top 13)) = true := by decide +kernel
theorem sc_join_prints : FnScope nm_join_prints ["first", "second", "axis"] (defScope (top 13)) := ⟨rfl, rfl, rfl, by decide +kernel, rfl, by decide +kernel, by decide +kernel⟩
def dd_join_prints : He.DefD := ⟨("join_prints", none), "join_prints", "join_prints", defArgs (top 13), defBody (top 13), defScope (top 13), [], []⟩
theorem ck_work_and_turn : ckSs ⟨nm_work_and_turn, defScope (top 14), [("join_prints", 3), ("turn_print", 2)], [], true, xcs⟩ ir_work_and_turn (defBody (top 14)) = true := by decide +kernel
theorem sc_work_and_turn : FnScope nm_work_and_turn ["sheet"] (defScope (top 14)) := ⟨rfl, rfl, rfl, by decide +kernel, rfl, by decide +kernel, by decide +kernel⟩
def dd_work_and_turn : He.DefD := ⟨("work_and_turn", none), "work_and_turn", "work_and_turn", defArgs (top 14), defBody (top 14), defScope (top 14), [], []⟩
theorem ck_work_and_tumble : ckSs ⟨nm_work_and_tumble, defScope (top 15), [("join_prints", 3), ("turn_print", 2)], [], true, xcs⟩ ir_work_and_tumble (defBody (top 15)) = true := by decide +kernel
theorem sc_work_and_tumble : FnScope nm_work_and_tumble ["sheet"] (defScope (top 15)) := ⟨rfl, rfl, rfl, by decide +kernel, rfl, by decide +kernel, by decide +kernel⟩
def dd_work_and_tumble : He.DefD := ⟨("work_and_tumble", none), "work_and_tumble", "work_and_tumble", defArgs (top 15), defBody (top 15), defScope (top 15), [], []⟩
theorem ck_printing_method : ckSs ⟨nm_printing_method, defScope (top 16), [("rotated", 1)], [], true, xcs⟩ ir_printing_method (defBody (top 16)) = true := by decide +kernel
theorem sc_printing_method : FnScope nm_printing_method ["sheet"] (defScope (top 16)) := ⟨rfl, rfl, rfl, by decide +kernel, rfl, by decide +kernel, by decide +kernel⟩
def dd_printing_method : He.DefD := ⟨("printing_method", none), "printing_method", "printing_method", defArgs (top 16), defBody (top 16), defScope (top 16), [], []⟩
theorem ck__law_cell : ckSs ⟨nm__law_cell, defScope (top 18), [], [], true, xcs⟩ ir__law_cell (defBody (top 18)) = true := by decide +kernel
theorem sc__law_cell : FnScope nm__law_cell ["_law_script", "_law_k"] (defScope (top 18)) := ⟨rfl, rfl, rfl, by decide +kernel, rfl, by decide +kernel, by decide +kernel⟩
def dd__law_cell : He.DefD := ⟨("_law_cell", none), "_law_cell", "_law_cell", defArgs (top 18), defBody (top 18), defScope (top 18), [], []⟩
theorem ck__law_draws : ckSs ⟨nm__law_draws, defScope (top 19), [], [], true, xcs⟩ ir__law_draws (defBody (top 19)) = true := by decide +kernel
theorem sc__law_draws : FnScope nm__law_draws ["_law_cell_here", "_law_count"] (defScope (top 19)) := ⟨rfl, rfl, rfl, by decide +kernel, rfl, by decide +kernel, by decide +kernel⟩
def dd__law_draws : He.DefD := ⟨("_law_draws", none), "_law_draws", "_law_draws", defArgs (top 19), defBody (top 19), defScope (top 19), [], []⟩
theorem ck__law_same : ckSs ⟨nm__law_same, defScope (top 20), [("_law_same", 2)], [], true, xcs⟩ ir__law_same (defBody (top 20)) = true := by decide +kernel
theorem sc__law_same : FnScope nm__law_same ["_law_actual", "_law_expected"] (defScope (top 20)) := ⟨rfl, rfl, rfl, by decide +kernel, rfl, by decide +kernel, by decide +kernel⟩
def dd__law_same : He.DefD := ⟨("_law_same", none), "_law_same", "_law_same", defArgs (top 20), defBody (top 20), defScope (top 20), [], []⟩
theorem ck__law_print : ckSs ⟨nm__law_print, defScope (top 21), [("_law_draws", 2), ("_law_cell", 2)], [], true, xcs⟩ ir__law_print (defBody (top 21)) = true := by decide +kernel
theorem sc__law_print : FnScope nm__law_print ["_law_script", "_law_start"] (defScope (top 21)) := ⟨rfl, rfl, rfl, by decide +kernel, rfl, by decide +kernel, by decide +kernel⟩
def dd__law_print : He.DefD := ⟨("_law_print", none), "_law_print", "_law_print", defArgs (top 21), defBody (top 21), defScope (top 21), [], []⟩
theorem ck__law_turned_side : ckSs ⟨nm__law_turned_side, defScope (top 22), [], [], true, xcs⟩ ir__law_turned_side (defBody (top 22)) = true := by decide +kernel
theorem sc__law_turned_side : FnScope nm__law_turned_side ["_law_side"] (defScope (top 22)) := ⟨rfl, rfl, rfl, by decide +kernel, rfl, by decide +kernel, by decide +kernel⟩
def dd__law_turned_side : He.DefD := ⟨("_law_turned_side", none), "_law_turned_side", "_law_turned_side", defArgs (top 22), defBody (top 22), defScope (top 22), [], []⟩
theorem ck__law_told : ckSs ⟨nm__law_told, defScope (top 23), [("work_and_turn", 1), ("work_and_tumble", 1)], [], true, xcs⟩ ir__law_told (defBody (top 23)) = true := by decide +kernel
theorem sc__law_told : FnScope nm__law_told ["_law_make", "_law_sheet"] (defScope (top 23)) := ⟨rfl, rfl, rfl, by decide +kernel, rfl, by decide +kernel, by decide +kernel⟩
def dd__law_told : He.DefD := ⟨("_law_told", none), "_law_told", "_law_told", defArgs (top 23), defBody (top 23), defScope (top 23), [], []⟩
theorem ck__law_wider : ckSs ⟨nm__law_wider, defScope (top 24), [("_law_cell", 2)], [], true, xcs⟩ ir__law_wider (defBody (top 24)) = true := by decide +kernel
theorem sc__law_wider : FnScope nm__law_wider ["_law_sheet", "_law_script"] (defScope (top 24)) := ⟨rfl, rfl, rfl, by decide +kernel, rfl, by decide +kernel, by decide +kernel⟩
def dd__law_wider : He.DefD := ⟨("_law_wider", none), "_law_wider", "_law_wider", defArgs (top 24), defBody (top 24), defScope (top 24), [], []⟩
theorem ck_law : ckSs ⟨nm_law, defScope (top 25), [("_law_wider", 2), ("_law_print", 2), ("_law_told", 2), ("work_and_turn", 1), ("printing_method", 1), ("cut_print", 3), ("turn_print", 2), ("work_and_tumble", 1), ("_law_turned_side", 1)], [], true, xcs⟩ ir_law (defBody (top 25)) = true := by decide +kernel
theorem sc_law : FnScope nm_law ["_law_script"] (defScope (top 25)) := ⟨rfl, rfl, rfl, by decide +kernel, rfl, by decide +kernel, by decide +kernel⟩
def dd_law : He.DefD := ⟨("law", none), "law", "law", defArgs (top 25), defBody (top 25), defScope (top 25), [], []⟩
def dds : List He.DefD := [dd_rotated_mark, dd_rotated, dd_turn_print, dd_part_of_columns, dd_part_of_rows, dd_cut_print, dd_joined, dd_check_size, dd_join_prints, dd_work_and_turn, dd_work_and_tumble, dd_printing_method, dd__law_cell, dd__law_draws, dd__law_same, dd__law_print, dd__law_turned_side, dd__law_told, dd__law_wider, dd_law]
def glos : List Str := ["rotated_mark", "rotated", "turn_print", "part_of_columns", "part_of_rows", "cut_print", "joined", "check_size", "join_prints", "work_and_turn", "work_and_tumble", "printing_method", "_law_cell", "_law_draws", "_law_same", "_law_print", "_law_turned_side", "_law_told", "_law_wider", "law"]
def fb (K : Fg) : Bool := (freeB K && (gloB glos K && (tabB glos K && ((He.Fa.int "SIDE_MOST" 8).ok K && (xcB PR K xd_Refused && apB K (xcs.map (·.1)))))))
section
variable {w : World} {K : Fg} {h base : Heap} {mg : Str → Option Value} (X : K.In h) (G : h.Ns mainGlobals mg) (c : SaysB fb dds xds K) (hB : ∀ c P, TK K c P → GxR.TabB base mg c P)
include X G c
theorem top_fresh : Fresh mg := freeB_ok X G (He.ba c.fact).1
theorem top_tab : tabB glos K = true := (He.ba (He.ba (He.ba c.fact).2).2).1
theorem top_glo : ∀ x ∈ glos, mg x = some (.ref (He.ga K x)) := gloB_ok X G (He.ba (He.ba c.fact).2).1
theorem gl_SIDE_MOST : ∃ u v, mg "SIDE_MOST" = some u ∧ RelV v u ∧ ∀ F, Rp K F v (.int 8) := by
  obtain ⟨t, e⟩ := He.int_ok X G (He.ba (He.ba (He.ba (He.ba c.fact).2).2).2).1
  exact ⟨_, .int 8, e, ⟨t, rfl⟩, fun _ => .int _⟩
theorem top_ns : ∀ x ∈ glos, PySem.W.nsIn K mainGlobals x = some (some (.ref (He.ga K x))) := gloB_ns (He.ba (He.ba c.fact).2).1
theorem xi_Refused : XcAt PR w K mg base "Refused" ["what"] :=
  xcAt (d := xd_Refused) (fn := "what") X G (c.cls_ 0 rfl) (He.ba (He.ba (He.ba (He.ba (He.ba c.fact).2).2).2).2).1 rfl (NdefX.nscope_by (by decide +kernel)) rfl (by decide +kernel) rfl rfl (by decide +kernel) (by decide) (by decide) (by decide +kernel) (fun _ _ _ _ _ _ _ us hl => match us, hl with | [_, _], _ => rfl)
theorem top_xc : ∀ x fs, (x, fs) ∈ xcs → XcAt PR w K mg base x fs := fun x fs h => by
  unfold xcs at h
  simp only [List.mem_cons, List.not_mem_nil, or_false, Prod.mk.injEq] at h
  obtain ⟨rfl, rfl⟩ := h
  exact xi_Refused X G c
theorem top_xd : Apart2 K xcs := apB_ok (He.ba (He.ba (He.ba (He.ba (He.ba c.fact).2).2).2).2).2 fun x fs h => by
  unfold xcs at h
  simp only [List.mem_cons, List.not_mem_nil, or_false, Prod.mk.injEq] at h
  obtain ⟨rfl, rfl⟩ := h
  exact (He.ba (He.ba (He.ba (He.ba (He.ba (He.ba c.fact).2).2).2).2).1).1
include hB
theorem at_rotated_mark : FnAt PR w K mg base 3 "rotated_mark" 1 d_rotated_mark := by
  obtain ⟨fd, F⟩ := c.def_ 0 (d := dd_rotated_mark) rfl
  exact fnAt (k := 0) (C := c_rotated_mark) F sc_rotated_mark (top_glo X G c "rotated_mark" (by decide)) (top_ns X G c "rotated_mark" (by decide)) (F.bindsN fun _ _ _ _ _ _ us hl => match us, hl with | [_], _ => rfl) (top_fresh X G c) (fun j x d => match j with  | _ + 0 => fun e1 _ => by cases e1) (top_xc X G c) (top_xd X G c) (fun j g n => match j with  | _ + 0 => fun e => by cases e) (fun _ => cdAt_of (top_tab X G c) hB _) ck_rotated_mark
theorem at_rotated : FnAt PR w K mg base 6 "rotated" 1 d_rotated := by
  obtain ⟨fd, F⟩ := c.def_ 1 (d := dd_rotated) rfl
  exact fnAt (k := 3) (C := c_rotated) F sc_rotated (top_glo X G c "rotated" (by decide)) (top_ns X G c "rotated" (by decide)) (F.bindsN fun _ _ _ _ _ _ us hl => match us, hl with | [_], _ => rfl) (top_fresh X G c) (fun j x d => match j with  | _ + 0 => fun e1 _ => by cases e1) (top_xc X G c) (top_xd X G c) (fun j g n => match j with | 0 => fun e => by cases e; exact (at_rotated_mark X G c hB).mono (by decide) | _ + 1 => fun e => by cases e) (fun _ => cdAt_of (top_tab X G c) hB _) ck_rotated
theorem at_turn_print : FnAt PR w K mg base 9 "turn_print" 2 d_turn_print := by
  obtain ⟨fd, F⟩ := c.def_ 2 (d := dd_turn_print) rfl
  exact fnAt (k := 6) (C := c_turn_print) F sc_turn_print (top_glo X G c "turn_print" (by decide)) (top_ns X G c "turn_print" (by decide)) (F.bindsN fun _ _ _ _ _ _ us hl => match us, hl with | [_, _], _ => rfl) (top_fresh X G c) (fun j x d => match j with  | _ + 0 => fun e1 _ => by cases e1) (top_xc X G c) (top_xd X G c) (fun j g n => match j with | 0 => fun e => by cases e; exact (at_rotated X G c hB).mono (by decide) | _ + 1 => fun e => by cases e) (fun _ => cdAt_of (top_tab X G c) hB _) ck_turn_print
theorem at_part_of_columns : FnAt PR w K mg base 3 "part_of_columns" 3 d_part_of_columns := by
  obtain ⟨fd, F⟩ := c.def_ 3 (d := dd_part_of_columns) rfl
  exact fnAt (k := 0) (C := c_part_of_columns) F sc_part_of_columns (top_glo X G c "part_of_columns" (by decide)) (top_ns X G c "part_of_columns" (by decide)) (F.bindsN fun _ _ _ _ _ _ us hl => match us, hl with | [_, _, _], _ => rfl) (top_fresh X G c) (fun j x d => match j with  | _ + 0 => fun e1 _ => by cases e1) (top_xc X G c) (top_xd X G c) (fun j g n => match j with  | _ + 0 => fun e => by cases e) (fun _ => cdAt_of (top_tab X G c) hB _) ck_part_of_columns
theorem at_part_of_rows : FnAt PR w K mg base 3 "part_of_rows" 3 d_part_of_rows := by
  obtain ⟨fd, F⟩ := c.def_ 4 (d := dd_part_of_rows) rfl
  exact fnAt (k := 0) (C := c_part_of_rows) F sc_part_of_rows (top_glo X G c "part_of_rows" (by decide)) (top_ns X G c "part_of_rows" (by decide)) (F.bindsN fun _ _ _ _ _ _ us hl => match us, hl with | [_, _, _], _ => rfl) (top_fresh X G c) (fun j x d => match j with  | _ + 0 => fun e1 _ => by cases e1) (top_xc X G c) (top_xd X G c) (fun j g n => match j with  | _ + 0 => fun e => by cases e) (fun _ => cdAt_of (top_tab X G c) hB _) ck_part_of_rows
theorem at_cut_print : FnAt PR w K mg base 6 "cut_print" 3 d_cut_print := by
  obtain ⟨fd, F⟩ := c.def_ 5 (d := dd_cut_print) rfl
  exact fnAt (k := 3) (C := c_cut_print) F sc_cut_print (top_glo X G c "cut_print" (by decide)) (top_ns X G c "cut_print" (by decide)) (F.bindsN fun _ _ _ _ _ _ us hl => match us, hl with | [_, _, _], _ => rfl) (top_fresh X G c) (fun j x d => match j with  | _ + 0 => fun e1 _ => by cases e1) (top_xc X G c) (top_xd X G c) (fun j g n => match j with | 0 => fun e => by cases e; exact (at_part_of_columns X G c hB).mono (by decide) | 1 => fun e => by cases e; exact (at_part_of_rows X G c hB).mono (by decide) | _ + 2 => fun e => by cases e) (fun _ => cdAt_of (top_tab X G c) hB _) ck_cut_print
theorem at_joined : FnAt PR w K mg base 3 "joined" 3 d_joined := by
  obtain ⟨fd, F⟩ := c.def_ 6 (d := dd_joined) rfl
  exact fnAt (k := 0) (C := c_joined) F sc_joined (top_glo X G c "joined" (by decide)) (top_ns X G c "joined" (by decide)) (F.bindsN fun _ _ _ _ _ _ us hl => match us, hl with | [_, _, _], _ => rfl) (top_fresh X G c) (fun j x d => match j with  | _ + 0 => fun e1 _ => by cases e1) (top_xc X G c) (top_xd X G c) (fun j g n => match j with  | _ + 0 => fun e => by cases e) (fun _ => cdAt_of (top_tab X G c) hB _) ck_joined
theorem at_check_size : FnAt PR w K mg base 3 "check_size" 1 d_check_size := by
  obtain ⟨fd, F⟩ := c.def_ 7 (d := dd_check_size) rfl
  exact fnAt (k := 0) (C := c_check_size) F sc_check_size (top_glo X G c "check_size" (by decide)) (top_ns X G c "check_size" (by decide)) (F.bindsN fun _ _ _ _ _ _ us hl => match us, hl with | [_], _ => rfl) (top_fresh X G c) (fun j x d => match j with | 0 => fun e1 e2 => by cases e1; cases e2; exact gl_SIDE_MOST X G c | _ + 1 => fun e1 _ => by cases e1) (top_xc X G c) (top_xd X G c) (fun j g n => match j with  | _ + 0 => fun e => by cases e) (fun _ => cdAt_of (top_tab X G c) hB _) ck_check_size
theorem at_join_prints : FnAt PR w K mg base 6 "join_prints" 3 d_join_prints := by
  obtain ⟨fd, F⟩ := c.def_ 8 (d := dd_join_prints) rfl
  exact fnAt (k := 3) (C := c_join_prints) F sc_join_prints (top_glo X G c "join_prints" (by decide)) (top_ns X G c "join_prints" (by decide)) (F.bindsN fun _ _ _ _ _ _ us hl => match us, hl with | [_, _, _], _ => rfl) (top_fresh X G c) (fun j x d => match j with  | _ + 0 => fun e1 _ => by cases e1) (top_xc X G c) (top_xd X G c) (fun j g n => match j with | 0 => fun e => by cases e; exact (at_joined X G c hB).mono (by decide) | 1 => fun e => by cases e; exact (at_check_size X G c hB).mono (by decide) | _ + 2 => fun e => by cases e) (fun _ => cdAt_of (top_tab X G c) hB _) ck_join_prints
theorem at_work_and_turn : FnAt PR w K mg base 12 "work_and_turn" 1 d_work_and_turn := by
  obtain ⟨fd, F⟩ := c.def_ 9 (d := dd_work_and_turn) rfl
  exact fnAt (k := 9) (C := c_work_and_turn) F sc_work_and_turn (top_glo X G c "work_and_turn" (by decide)) (top_ns X G c "work_and_turn" (by decide)) (F.bindsN fun _ _ _ _ _ _ us hl => match us, hl with | [_], _ => rfl) (top_fresh X G c) (fun j x d => match j with  | _ + 0 => fun e1 _ => by cases e1) (top_xc X G c) (top_xd X G c) (fun j g n => match j with | 0 => fun e => by cases e; exact (at_join_prints X G c hB).mono (by decide) | 1 => fun e => by cases e; exact (at_turn_print X G c hB).mono (by decide) | _ + 2 => fun e => by cases e) (fun _ => cdAt_of (top_tab X G c) hB _) ck_work_and_turn
theorem at_work_and_tumble : FnAt PR w K mg base 12 "work_and_tumble" 1 d_work_and_tumble := by
  obtain ⟨fd, F⟩ := c.def_ 10 (d := dd_work_and_tumble) rfl
  exact fnAt (k := 9) (C := c_work_and_tumble) F sc_work_and_tumble (top_glo X G c "work_and_tumble" (by decide)) (top_ns X G c "work_and_tumble" (by decide)) (F.bindsN fun _ _ _ _ _ _ us hl => match us, hl with | [_], _ => rfl) (top_fresh X G c) (fun j x d => match j with  | _ + 0 => fun e1 _ => by cases e1) (top_xc X G c) (top_xd X G c) (fun j g n => match j with | 0 => fun e => by cases e; exact (at_join_prints X G c hB).mono (by decide) | 1 => fun e => by cases e; exact (at_turn_print X G c hB).mono (by decide) | _ + 2 => fun e => by cases e) (fun _ => cdAt_of (top_tab X G c) hB _) ck_work_and_tumble
theorem at_printing_method : FnAt PR w K mg base 9 "printing_method" 1 d_printing_method := by
  obtain ⟨fd, F⟩ := c.def_ 11 (d := dd_printing_method) rfl
  exact fnAt (k := 6) (C := c_printing_method) F sc_printing_method (top_glo X G c "printing_method" (by decide)) (top_ns X G c "printing_method" (by decide)) (F.bindsN fun _ _ _ _ _ _ us hl => match us, hl with | [_], _ => rfl) (top_fresh X G c) (fun j x d => match j with  | _ + 0 => fun e1 _ => by cases e1) (top_xc X G c) (top_xd X G c) (fun j g n => match j with | 0 => fun e => by cases e; exact (at_rotated X G c hB).mono (by decide) | _ + 1 => fun e => by cases e) (fun _ => cdAt_of (top_tab X G c) hB _) ck_printing_method
theorem at__law_cell : FnAt PR w K mg base 3 "_law_cell" 2 d__law_cell := by
  obtain ⟨fd, F⟩ := c.def_ 12 (d := dd__law_cell) rfl
  exact fnAt (k := 0) (C := c__law_cell) F sc__law_cell (top_glo X G c "_law_cell" (by decide)) (top_ns X G c "_law_cell" (by decide)) (F.bindsN fun _ _ _ _ _ _ us hl => match us, hl with | [_, _], _ => rfl) (top_fresh X G c) (fun j x d => match j with  | _ + 0 => fun e1 _ => by cases e1) (top_xc X G c) (top_xd X G c) (fun j g n => match j with  | _ + 0 => fun e => by cases e) (fun _ => cdAt_of (top_tab X G c) hB _) ck__law_cell
theorem at__law_draws : FnAt PR w K mg base 3 "_law_draws" 2 d__law_draws := by
  obtain ⟨fd, F⟩ := c.def_ 13 (d := dd__law_draws) rfl
  exact fnAt (k := 0) (C := c__law_draws) F sc__law_draws (top_glo X G c "_law_draws" (by decide)) (top_ns X G c "_law_draws" (by decide)) (F.bindsN fun _ _ _ _ _ _ us hl => match us, hl with | [_, _], _ => rfl) (top_fresh X G c) (fun j x d => match j with  | _ + 0 => fun e1 _ => by cases e1) (top_xc X G c) (top_xd X G c) (fun j g n => match j with  | _ + 0 => fun e => by cases e) (fun _ => cdAt_of (top_tab X G c) hB _) ck__law_draws
theorem an__law_same (m : Nat) : FnAt PR w K mg base (3 + 3 * m) "_law_same" 2 (r__law_same m) := by
  obtain ⟨fd, F⟩ := c.def_ 14 (d := dd__law_same) rfl
  have hg := top_glo X G c "_law_same" (by decide)
  have hn := top_ns X G c "_law_same" (by decide)
  have hb := F.bindsN (ps := ["_law_actual", "_law_expected"]) fun _ _ _ _ _ _ us hl => match us, hl with | [_, _], _ => rfl
  induction m with
  | zero => exact fnAt0 (k := 0) F sc__law_same hg hn hb
  | succ m ih => exact fnAt (k := 3 + 3 * m) (C := c__law_same (r__law_same m)) F sc__law_same hg hn hb (top_fresh X G c) (fun j x d => match j with  | _ + 0 => fun e1 _ => by cases e1) (top_xc X G c) (top_xd X G c) (fun j g n => match j with | 0 => fun e => by cases e; exact ih | _ + 1 => fun e => by cases e) (fun _ => cdAt_of (top_tab X G c) hB _) ck__law_same
theorem at__law_same : FnAt PR w K mg base 27 "_law_same" 2 d__law_same := an__law_same X G c hB 8
theorem at__law_print : FnAt PR w K mg base 6 "_law_print" 2 d__law_print := by
  obtain ⟨fd, F⟩ := c.def_ 15 (d := dd__law_print) rfl
  exact fnAt (k := 3) (C := c__law_print) F sc__law_print (top_glo X G c "_law_print" (by decide)) (top_ns X G c "_law_print" (by decide)) (F.bindsN fun _ _ _ _ _ _ us hl => match us, hl with | [_, _], _ => rfl) (top_fresh X G c) (fun j x d => match j with  | _ + 0 => fun e1 _ => by cases e1) (top_xc X G c) (top_xd X G c) (fun j g n => match j with | 0 => fun e => by cases e; exact (at__law_draws X G c hB).mono (by decide) | 1 => fun e => by cases e; exact (at__law_cell X G c hB).mono (by decide) | _ + 2 => fun e => by cases e) (fun _ => cdAt_of (top_tab X G c) hB _) ck__law_print
theorem at__law_turned_side : FnAt PR w K mg base 3 "_law_turned_side" 1 d__law_turned_side := by
  obtain ⟨fd, F⟩ := c.def_ 16 (d := dd__law_turned_side) rfl
  exact fnAt (k := 0) (C := c__law_turned_side) F sc__law_turned_side (top_glo X G c "_law_turned_side" (by decide)) (top_ns X G c "_law_turned_side" (by decide)) (F.bindsN fun _ _ _ _ _ _ us hl => match us, hl with | [_], _ => rfl) (top_fresh X G c) (fun j x d => match j with  | _ + 0 => fun e1 _ => by cases e1) (top_xc X G c) (top_xd X G c) (fun j g n => match j with  | _ + 0 => fun e => by cases e) (fun _ => cdAt_of (top_tab X G c) hB _) ck__law_turned_side
theorem at__law_told : FnAt PR w K mg base 15 "_law_told" 2 d__law_told := by
  obtain ⟨fd, F⟩ := c.def_ 17 (d := dd__law_told) rfl
  exact fnAt (k := 12) (C := c__law_told) F sc__law_told (top_glo X G c "_law_told" (by decide)) (top_ns X G c "_law_told" (by decide)) (F.bindsN fun _ _ _ _ _ _ us hl => match us, hl with | [_, _], _ => rfl) (top_fresh X G c) (fun j x d => match j with  | _ + 0 => fun e1 _ => by cases e1) (top_xc X G c) (top_xd X G c) (fun j g n => match j with | 0 => fun e => by cases e; exact (at_work_and_turn X G c hB).mono (by decide) | 1 => fun e => by cases e; exact (at_work_and_tumble X G c hB).mono (by decide) | _ + 2 => fun e => by cases e) (fun _ => cdAt_of (top_tab X G c) hB _) ck__law_told
theorem at__law_wider : FnAt PR w K mg base 6 "_law_wider" 2 d__law_wider := by
  obtain ⟨fd, F⟩ := c.def_ 18 (d := dd__law_wider) rfl
  exact fnAt (k := 3) (C := c__law_wider) F sc__law_wider (top_glo X G c "_law_wider" (by decide)) (top_ns X G c "_law_wider" (by decide)) (F.bindsN fun _ _ _ _ _ _ us hl => match us, hl with | [_, _], _ => rfl) (top_fresh X G c) (fun j x d => match j with  | _ + 0 => fun e1 _ => by cases e1) (top_xc X G c) (top_xd X G c) (fun j g n => match j with | 0 => fun e => by cases e; exact (at__law_cell X G c hB).mono (by decide) | _ + 1 => fun e => by cases e) (fun _ => cdAt_of (top_tab X G c) hB _) ck__law_wider
omit hB in
theorem at_law {f : Addr} (hf : mg "law" = some (.ref f)) : ∃ fd : FuncData, (∀ (s : Shared) (v : Value), BindsTo s fd ⟨[v], []⟩ [("_law_script", v)]) ∧ ∀ base : Heap, (∀ c P, TK K c P → GxR.TabB base mg c P) → FnOk PR w K mg base CX0 18 f fd ["_law_script"] (spD K 1 d_law) := by
  obtain ⟨fd, F⟩ := c.def_ 19 (d := dd_law) rfl
  have e := hf.symm.trans (top_glo X G c "law" (by decide))
  cases e
  exact ⟨fd, fun s v => FunD.bindsA (ps := ["_law_script"]) F (fun _ _ _ _ _ _ us hl => match us, hl with | [_], _ => rfl) s [v] rfl, fun base hB => calmOk (fnOkD (k := 15) (C := c_law) F sc_law (top_fresh X G c) (fun j x d => match j with  | _ + 0 => fun e1 _ => by cases e1) (top_xc X G c) (top_xd X G c) (fun j g n => match j with | 0 => fun e => by cases e; exact (at__law_wider X G c hB).mono (by decide) | 1 => fun e => by cases e; exact (at__law_print X G c hB).mono (by decide) | 2 => fun e => by cases e; exact (at__law_told X G c hB).mono (by decide) | 3 => fun e => by cases e; exact (at_work_and_turn X G c hB).mono (by decide) | 4 => fun e => by cases e; exact (at_printing_method X G c hB).mono (by decide) | 5 => fun e => by cases e; exact (at_cut_print X G c hB).mono (by decide) | 6 => fun e => by cases e; exact (at_turn_print X G c hB).mono (by decide) | 7 => fun e => by cases e; exact (at_work_and_tumble X G c hB).mono (by decide) | 8 => fun e => by cases e; exact (at__law_turned_side X G c hB).mono (by decide) | _ + 9 => fun e => by cases e) (fun _ => cdAt_of (top_tab X G c) hB _) ck_law)⟩
end
def loose0 : List Str := ["SIDE_MOST", "BookError", "Refused"]
def loose : List Str := loose0
abbrev RO : PySem.W.OpenRow := PySem.W.OpenLaw.row PySem.Challenge.rw_boundbook_k57_work_and_turn
def ob (s : PySem.W.SharedT) : AlX := obsBG 4 fb dds xds (HandSHeadRun.getT s)
theorem ob_eq (s : PySem.W.SharedT) : ob s = (hookB 4 fb dds xds).obs s.abs := obsBG_eq (HandSHeadRun.getT_eq s)
theorem runs (w : World) : HandSHeadRun.RunEq RO (PySem.W.view RO.prog [5, 6, 7, 8, 9, 10, 11, 12, 13, 14, 15, 16, 18, 19, 20, 21, 22, 23, 24, 25]) (hookB 4 fb dds xds) ob 1960 loose w := by
  intro os
  kernel_rfl
end Bk
open PySem PySem.W PySem.Calls PyProof.Rows
set_option maxRecDepth 100000 in
set_option maxHeartbeats 0 in
theorem PySem.Challenge.cw_boundbook_k57_work_and_turn_holds : PySem.Challenge.rw_boundbook_k57_work_and_turn.Holds := by
  w_on; o_law
  refine HandSHeadRun.head_any (r := Bk.RO) (q := view Bk.RO.prog [5, 6, 7, 8, 9, 10, 11, 12, 13, 14, 15, 16, 18, 19, 20, 21, 22, 23, 24, 25]) (H := Bk.hookB 4 Bk.fb Bk.dds Bk.xds) (ob := Bk.ob) (M := 1960) (loose := Bk.loose) (d := HandSHeadRun.topDef Bk.RO.prog 25) (kwd := []) Bk.ob_eq
    (by kernel_rfl) (fun s => by kernel_rfl) Bk.runs (by kernel_rfl) (by kernel_rfl) (by kernel_rfl) (by rfl) (by first | assumption | decide +kernel) (by decide +kernel) ⟨rfl, rfl, rfl, rfl, rfl, by decide +kernel⟩ ?hw ?hc
  case hw => w_witness2
  case hc =>
    refine Bk.lawEnd (l := PySem.Challenge.rw_boundbook_k57_work_and_turn) (n := 63) (k := 18) (x := "_law_script") (F := Bk.d_law) (xs := Bk.glos) rfl (by decide) (by kernel_rfl) ⟨rfl, by decide, by decide⟩ (by kernel_rfl) Bk.law_true ?F
    intro w mg fa h Y G hmg0
    obtain ⟨K, KX, c⟩ := Y
    have hmg : mg ("law" : PySem.Str) = some (.ref fa) := by
      have e : (HandSHeadRun.topDef Bk.RO.prog 25).name = ("law" : PySem.Str) := by kernel_rfl
      rw [← e]
      exact hmg0
    obtain ⟨fd, hb, hF⟩ := Bk.at_law (w := w) KX G c hmg
    exact ⟨K, fd, KX, Bk.top_tab KX G c, hb, fun base _ _ hB => hF base hB⟩
