/- The own machine: the simp set that runs its texts. -/
import Derived.Test.YtmlinnkaccgcgaaGreatOMPure
set_option linter.all false
namespace Go.Proofs.YtmlinnkaccgcgaaGreat.OM
abbrev di (n : Int) : D:=.int .i64 n
abbrev vi (n : Int) : V:=.one (.ro false (.int .i64 n))
abbrev vb (b : Bool) : V:=.one (.ro false (.bool b))
section
variable {Γ : Env} {Q : Out → Prop} {L : AL}
theorem wp_regK {live ren ops draw} (h : ∀ K : Out → Prop,(∀ o,Q o → K o) → regQ K (runReg Γ live ren ops draw L)) : Wp Γ (.reg live ren ops draw) Q L :=
 wp_reg (h Q fun _ h => h)
theorem seqQ_norm {b : PC} (h : Wp Γ b Q L) : seqQ Γ b Q (.norm L):=h
theorem seqQ_exit {b : PC} {i : Nat} (h : Q (.exit i L)) : seqQ Γ b Q (.exit i L):=h
theorem seqQ_ret {b : PC} (h : Q (.ret L)) : seqQ Γ b Q (.ret L):=h
theorem blkQ_norm {id : Nat} (h : Q (.norm L)) : blkQ id Q (.norm L):=h
theorem blkQ_ret {id : Nat} (h : Q (.ret L)) : blkQ id Q (.ret L):=h
theorem blkQ_exit {id : Nat} (h : Q (.norm L)) : blkQ id Q (.exit id L):=by simp only [blkQ,if_true]; exact h
theorem blkQ_exit' {id i : Nat} (hi : i ≠ id) (h : Q (.exit i L)) : blkQ id Q (.exit i L):=by simp only [blkQ,if_neg hi]; exact h
theorem endQ_ret {F : PF} {xs : List V} {y} (h : finish F xs L = some y) : endQ F xs y (.ret L):=h
theorem endQ_norm {F : PF} {xs : List V} {y} (h : finish F xs L = some y) : endQ F xs y (.norm L):=h
theorem wp_condE {x : PX} {a b : PC} (h : ∃ t,(L.st.ev x).asBool = some t ∧ (t = true → Wp Γ a Q L) ∧ (t = false → Wp Γ b Q L)) : Wp Γ (.cond x a b) Q L:=by
 obtain ⟨t,h1,h2,h3⟩:=h
 exact wp_cond h1 h2 h3
def endE (F : PF) (xs : List V) (Φ : V × List (Nat × Nat × C) → Prop) : Out → Prop
 | .ret L | .norm L => ∃ y,finish F xs L = some y ∧ Φ y
 | _ => False
theorem endE_ret {F : PF} {xs : List V} {Φ} (h : ∃ y,finish F xs L = some y ∧ Φ y) : endE F xs Φ (.ret L):=h
theorem endE_norm {F : PF} {xs : List V} {Φ} (h : ∃ y,finish F xs L = some y ∧ Φ y) : endE F xs Φ (.norm L):=h
theorem Gw_ofE {T : Nat → Option PF} {f : Nat} {F : PF} {xs : List V} {Φ} (hT : T f = some F)
  (hc : (xs.all V.argOk && F.io.all (fun i => ((initAL 0 xs).get i).2.isSome)) = true)
  (h : Wp (Gw T) F.body (endE F xs Φ) (initAL 0 xs)) : ∃ y,Gw T f xs = some y ∧ Φ y:=by
 obtain ⟨n,o,h1,h2,h3⟩:=h
 cases o with
 | fail => exact absurd rfl h2
 | norm L =>
  obtain ⟨y,h4,h5⟩:=h3
  exact ⟨y,Gw_of hT hc ⟨n,.norm L,h1,h2,h4⟩,h5⟩
 | ret L =>
  obtain ⟨y,h4,h5⟩:=h3
  exact ⟨y,Gw_of hT hc ⟨n,.ret L,h1,h2,h4⟩,h5⟩
 | exit i L => exact h3.elim
def endI (F : PF) (xs : List V) (Φ : Int → Prop) : Out → Prop
 | .ret L | .norm L => ∃ n,finish F xs L = some (vi n,[]) ∧ Φ n
 | _ => False
theorem endI_ret {F : PF} {xs : List V} {Φ} (h : ∃ n,finish F xs L = some (vi n,[]) ∧ Φ n) : endI F xs Φ (.ret L):=h
theorem endI_norm {F : PF} {xs : List V} {Φ} (h : ∃ n,finish F xs L = some (vi n,[]) ∧ Φ n) : endI F xs Φ (.norm L):=h
theorem Gw_ofI {T : Nat → Option PF} {f : Nat} {F : PF} {xs : List V} {Φ : Int → Prop} (hT : T f = some F)
  (hc : (xs.all V.argOk && F.io.all (fun i => ((initAL 0 xs).get i).2.isSome)) = true)
  (h : Wp (Gw T) F.body (endI F xs Φ) (initAL 0 xs)) : ∃ n,Gw T f xs = some (vi n,[]) ∧ Φ n:=by
 obtain ⟨y,h1,n,rfl,h2⟩:=Gw_ofE (Φ:=fun y => ∃ n,y = (vi n,[]) ∧ Φ n) hT hc (h.mono fun o _ ho => by
  cases o with
  | norm L => obtain ⟨n,h1,h2⟩:=ho; exact ⟨_,h1,n,rfl,h2⟩
  | ret L => obtain ⟨n,h1,h2⟩:=ho; exact ⟨_,h1,n,rfl,h2⟩
  | _ => exact ho.elim)
 exact ⟨n,h1,h2⟩
def loopQ {σ : Type} (I : σ → AL) (P : σ → Prop) (m : σ → Nat) (n : Nat) (Q : Out → Prop) : Out → Prop
 | .norm L' => ∃ s',L' = I s' ∧ P s' ∧ m s' < n
 | o => Q o
theorem wp_loopI {c : PC} {σ : Type} (I : σ → AL) (P : σ → Prop) (m : σ → Nat) (s0 : σ) (h0 : L = I s0) (hP : P s0) (step : ∀ s,P s → Wp Γ c (loopQ I P m (m s) Q) (I s)) : Wp Γ (.loop c) Q L:=by
 subst h0
 have key : ∀ n s,m s < n → P s → Wp Γ (.loop c) Q (I s):=by
  intro n
  induction n with
  | zero => intro s h; omega
  | succ n ih =>
   intro s h hP
   refine wp_loop ((step s hP).mono fun o ho h1 => ?_)
   cases o with
   | fail => exact absurd rfl ho
   | norm L' =>
    obtain ⟨s',rfl,h2,h3⟩:=h1
    exact ih s' (by omega) h2
   | exit i L' => exact h1
   | ret L' => exact h1
 exact key _ s0 (Nat.lt_succ_self _) hP
theorem loopQ_norm {σ : Type} {I : σ → AL} {P : σ → Prop} {m : σ → Nat} {n : Nat} (h : ∃ s',L = I s' ∧ P s' ∧ m s' < n) : loopQ I P m n Q (.norm L):=h
theorem loopQ_exit {σ : Type} {I : σ → AL} {P : σ → Prop} {m : σ → Nat} {n i : Nat} (h : Q (.exit i L)) : loopQ I P m n Q (.exit i L):=h
theorem loopQ_ret {σ : Type} {I : σ → AL} {P : σ → Prop} {m : σ → Nat} {n : Nat} (h : Q (.ret L)) : loopQ I P m n Q (.ret L):=h
@[simp] theorem wrap_i64 {n : Int} (h1 : -9223372036854775808 ≤ n) (h2 : n ≤ 9223372036854775807) : IntKind.wrap .i64 n = n:=by
 simp [IntKind.wrap,IntKind.signed,IntKind.bits]; omega
@[simp] theorem wrap_u8 {n : Int} (h1 : 0 ≤ n) (h2 : n ≤ 255) : IntKind.wrap .u8 n = n:=by
 simp [IntKind.wrap,IntKind.signed,IntKind.bits]; omega
theorem lookup_mem {β : Type} {l : List (Nat × β)} {k : Nat} {b : β} (h : l.lookup k = some b) : (k,b) ∈ l:=by
 induction l with
 | nil => simp at h
 | cons x l ih =>
  obtain ⟨k',b'⟩:=x
  rw [List.lookup_cons] at h
  split at h
  ·rename_i e
   have:=beq_iff_eq.1 e
   subst this
   simp at h; subst h; simp
  ·exact List.mem_cons_of_mem _ (ih h)
@[simp] theorem get_mid {α : Type} {n : Nat} (l r : List α) (x : α) (h : n = l.length) : (l ++ x :: r)[n]? = some x:=by subst h; simp
@[simp] theorem set_mid {α : Type} {n : Nat} (l r : List α) (x y : α) (h : n = l.length) : (l ++ x :: r).set n y = l ++ y :: r:=by subst h; simp
end
/-! The run of a region in a form that carries undecided tests to the outside. -/
section
variable {α β : Type}
def ob (x : Option α) (f : α → Option β) : Option β:=match x with
 | some a => f a
 | none => none
@[simp] theorem ob_some (a : α) (f : α → Option β) : ob (some a) f = f a:=rfl
@[simp] theorem ob_none (f : α → Option β) : ob none f = none:=rfl
inductive Tag.{u} {α : Sort u} (x y : α) : Type
 | mk : Tag x y
def isel (c : Prop) [Decidable c] (x y : α) (_ : Tag x y) : α:=if c then x else y
@[simp] theorem isel_true (x y : α) (t : Tag x y) : isel True x y t = x:=rfl
@[simp] theorem isel_false (x y : α) (t : Tag x y) : isel False x y t = y:=rfl
@[simp] theorem ob_ite (c : Prop) [Decidable c] (x y : Option α) (f : α → Option β) : ob (if c then x else y) f = isel c (ob x f) (ob y f) .mk:=by unfold isel; split <;> rfl
@[simp] theorem ob_isel (c : Prop) [Decidable c] (x y : Option α) (t : Tag x y) (f : α → Option β) : ob (isel c x y t) f = isel c (ob x f) (ob y f) .mk:=by unfold isel; split <;> rfl
def PSel (c a b : Prop) (_ : Tag a b) : Prop:=(c → a) ∧ (¬ c → b)
@[simp] theorem PSel_true (a b : Prop) (t : Tag a b) : PSel True a b t = a:=by simp [PSel]
@[simp] theorem PSel_false (a b : Prop) (t : Tag a b) : PSel False a b t = b:=by simp [PSel]
theorem psel {c a b : Prop} {t : Tag a b} (h1 : c → a) (h2 : ¬ c → b) : PSel c a b t:=⟨h1,h2⟩
def gsel (a : AV) (want : Bool) (x y : Option St) : Option St:=match a with
 | .v _ (.bool b) => if b = want then x else y
 | .tup [] => y
 | _ => none
@[simp] theorem gsel_true (k b : Bool) (x y : Option St) : gsel (.v k (.bool b)) true x y = isel (b = true) x y .mk:=rfl
@[simp] theorem gsel_false (k b : Bool) (x y : Option St) : gsel (.v k (.bool b)) false x y = isel (b = true) y x .mk:=by cases b <;> rfl
@[simp] theorem gsel_tup (want : Bool) (x y : Option St) : gsel (.tup []) want x y = y:=rfl
def stepD (d : Nat) (S : St) (z : AV × Option Rt × Ms) : Option St:=match z with
 | (a,none,m) => some { av:=upd S.av d a,ms:=m }
 | (a,some r,m) => match m d with
  | (none,_) => some { av:=upd S.av d a,ms:=upd m d (some r,[]) }
  | _ => none
def stepN (S : St) (z : AV × Option Rt × Ms) : Option St:=match z with
 | (_,none,m) => some { av:=S.av,ms:=m }
 | _ => none
def stepG (Γ : Env) (dst : Option Nat) (op : POp) (S : St) : Option St:=match dst with
 | some d => ob (opf Γ S.ev d S.ms op) (stepD d S)
 | none => ob (opf Γ S.ev 0 S.ms op) (stepN S)
def skipG (dst : Option Nat) (S : St) : Option St:=match dst with
 | some d => some { S with av:=upd S.av d (.tup []) }
 | none => some S
theorem stepO_free (Γ : Env) (dst : Option Nat) (op : POp) (S : St) : stepO Γ ⟨dst,op,none⟩ S = stepG Γ dst op S:=by
 cases dst with
 | some d =>
  show (match opf Γ S.ev d S.ms op with
   | some (a,none,m) => some { av:=upd S.av d a,ms:=m }
   | some (a,some r,m) => match m d with
    | (none,_) => some { av:=upd S.av d a,ms:=upd m d (some r,[]) }
    | _ => none
   | none => none : Option St) = ob (opf Γ S.ev d S.ms op) (stepD d S)
  cases h : opf Γ S.ev d S.ms op with
  | none => rfl
  | some z => obtain ⟨a,r,m⟩:=z; cases r <;> rfl
 | none =>
  show (match opf Γ S.ev 0 S.ms op with
   | some (_,none,m) => some { av:=S.av,ms:=m }
   | _ => none : Option St) = ob (opf Γ S.ev 0 S.ms op) (stepN S)
  cases h : opf Γ S.ev 0 S.ms op with
  | none => rfl
  | some z => obtain ⟨a,r,m⟩:=z; cases r <;> rfl
theorem stepO_true {Γ : Env} {o : PO} {S : St} (h : gd S o.g = some true) : stepO Γ o S = stepG Γ o.dst o.op S:=by
 rw [← stepO_free]
 unfold stepO
 rw [h]
 rfl
theorem stepO_false {Γ : Env} {o : PO} {S : St} (h : gd S o.g = some false) : stepO Γ o S = skipG o.dst S:=by
 unfold stepO
 rw [h]
 rfl
theorem stepO_none {Γ : Env} {o : PO} {S : St} (h : gd S o.g = none) : stepO Γ o S = none:=by
 unfold stepO
 rw [h]
theorem stepO_gd (Γ : Env) (dst : Option Nat) (op : POp) (t : Nat) (want : Bool) (S : St) : stepO Γ ⟨dst,op,some (t,want)⟩ S = gsel (S.av t) want (stepG Γ dst op S) (skipG dst S):=by
 have hg : gd S (some (t,want)) = match S.av t with
  | .v _ (.bool b) => some (b == want)
  | .tup [] => some false
  | _ => none:=rfl
 unfold gsel
 split
 ·rename_i k b hav
  rw [hav] at hg
  by_cases hb : b = want
  ·rw [if_pos hb]; exact stepO_true (hg.trans (by simp [hb]))
  ·rw [if_neg hb]; exact stepO_false (hg.trans (by simp [hb]))
 ·rename_i hav
  rw [hav] at hg
  exact stepO_false hg
 ·rename_i h1 h2
  refine stepO_none (hg.trans ?_)
  split
  ·rename_i k b hav; exact absurd hav (h1 k b)
  ·rename_i hav; exact absurd hav h2
  ·rfl
theorem runOps_cons (Γ : Env) (o : PO) (os : List PO) (S : St) : runOps Γ (o :: os) S = ob (stepO Γ o S) (runOps Γ os):=by
 simp only [runOps]
 cases stepO Γ o S <;> rfl
theorem foots_cons (Γ : Env) (o : PO) (os : List PO) (S : St) : foots Γ (o :: os) S = match stepO Γ o S with
 | some S' => (footR S o,footW S o) :: foots Γ os S'
 | none => []:=rfl
def finR (live : List Nat) (ren : List (Nat × Nat)) : Option St → Out
 | some S => .norm (settle live ren S)
 | none => .fail
@[simp] theorem finR_some (live ren S) : finR live ren (some S) = .norm (settle live ren S):=rfl
@[simp] theorem finR_none (live ren) : finR live ren none = .fail:=rfl
@[simp] theorem finR_ite (live ren) (c : Prop) [Decidable c] (x y : Option St) : finR live ren (if c then x else y) = isel c (finR live ren x) (finR live ren y) .mk:=by unfold isel; split <;> rfl
@[simp] theorem finR_isel (live ren) (c : Prop) [Decidable c] (x y : Option St) (t : Tag x y) : finR live ren (isel c x y t) = isel c (finR live ren x) (finR live ren y) .mk:=by unfold isel; split <;> rfl
theorem runReg_none (Γ : Env) (live ren ops) (L : AL) : runReg Γ live ren ops none L = finR live ren (runOps Γ ops L.st):=by
 simp only [runReg,if_true]; cases runOps Γ ops L.st <;> rfl
theorem runReg_nil (Γ : Env) (live ren ops) (L : AL) : runReg Γ live ren ops (some []) L = finR live ren (runOps Γ ops L.st):=by
 simp only [runReg,List.isEmpty_nil,Bool.true_or,if_true]; cases runOps Γ ops L.st <;> rfl
theorem runReg_cons (Γ : Env) (live ren ops p ps) (L : AL) : runReg Γ live ren ops (some (p :: ps)) L = if parOk (foots Γ ops L.st) (p :: ps) = true then finR live ren (runOps Γ ops L.st) else .fail:=by
 simp only [runReg,List.isEmpty_cons,Bool.false_or]
 cases runOps Γ ops L.st <;> split <;> rfl
theorem regQ_ite (Q : Out → Prop) (c : Prop) [Decidable c] (x y : Out) : regQ Q (if c then x else y) = PSel c (regQ Q x) (regQ Q y) .mk:=by
 by_cases h : c <;> simp [h]
theorem regQ_isel (Q : Out → Prop) (c : Prop) [Decidable c] (x y : Out) (t : Tag x y) : regQ Q (isel c x y t) = PSel c (regQ Q x) (regQ Q y) .mk:=by
 by_cases h : c <;> simp [h,isel]
@[simp] theorem regQ_norm (Q : Out → Prop) (L : AL) : regQ Q (.norm L) = Q (.norm L):=rfl
@[simp] theorem regQ_fail (Q : Out → Prop) : regQ Q .fail = False:=rfl
end
@[simp] theorem upd_apply {α : Type} (f : Nat → α) (n : Nat) (x : α) (k : Nat) : upd f n x k = if k = n then x else f k:=rfl
@[simp] theorem st_av (L : AL) (n : Nat) : L.st.av n = (L.get n).1:=rfl
@[simp] theorem st_ms (L : AL) (n : Nat) : L.st.ms n = ((L.get n).2,[]):=rfl
attribute [simp] runReg_none runReg_nil runReg_cons runOps_cons stepO_free stepO_gd regQ_ite regQ_isel stepD stepN stepG skipG opf initAL imp impV impCs rcell mkv virOf V.flat C.isOwn AL.get St.ev refCs refC AV.cells settle fixAV okR lookR backR keepRt fixRt fixC binD AV.asBool AV.asInt loadC finish outVs resAV outV out1 out? absC absCs dropC dropCs storeB outUps Ms.killed srcR D.scal Ms.els cutD Ms.at Ms.cell Rt.cells D.dig D.put Rt.setc Ms.putAt cellAV storeC toDs C.toD setRange killsC killsD C.scal argVs argV borC borCs AV.lent AV.lent1 lentAny V.plain V.plain1 V.okRes V.okRes1 C.okRes C.noRf thr Ms.take unD eqCells impVs V.argOk loHi boundI cut bytesStr fillD chunks roDs capV AV.hasFv AV.isFv AV.ptr? V.noPtr C.isRo usCells boxBack killB List.contains_eq_mem lenDs strBytes
attribute [simp] runOps.eq_1
end Go.Proofs.YtmlinnkaccgcgaaGreat.OM
