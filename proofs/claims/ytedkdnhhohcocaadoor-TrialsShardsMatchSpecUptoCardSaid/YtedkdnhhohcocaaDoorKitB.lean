/- Words of our own: operations that only read, carried out by the kernel's reckoning over the slots that are known. -/
import Derived.Test.YtedkdnhhohcocaaDoorKitA
import Derived.Test.YtedkdnhhohcocaaDoorKitP
import Derived.Laws.DeepStrings4
import Derived.Laws.StructEq
set_option linter.unusedSimpArgs false
set_option linter.unusedVariables false
set_option linter.unnecessarySimpa false
namespace Go.Proofs.YtedkdnhhohcocaaDoor.Kit
open Go

/-! ### 4. What an operation asks of the world -/
inductive Ev where
  | load (a:Addr) (v:Value)
  | need (p:Prop)
def Ev.ok (w:World):Ev→Prop
  | .load a v=>w.cell? a=some v
  | .need p=>p
def Hold (w:World):List Ev→Prop
  | []=>True
  | [e]=>e.ok w
  | e::e2::es=>e.ok w∧Hold w (e2::es)
theorem Hold.cons {w:World} {e:Ev} {es:List Ev} (h:Hold w (e::es)):e.ok w∧Hold w es:=by
  cases es with
  | nil=>exact ⟨h,trivial⟩
  | cons e2 es=>exact h
theorem Hold.append {w:World}:∀ {es fs:List Ev},Hold w (es++fs)→Hold w es∧Hold w fs
  | [],fs,h=>⟨trivial,h⟩
  | [e],[],h=>⟨h,trivial⟩
  | [e],f::fs,h=>h
  | e::e2::es,fs,h=>by
    obtain ⟨h1,h2⟩:=Hold.append (es:=e2::es) (fs:=fs) h.2
    exact ⟨⟨h.1,h1⟩,h2⟩
def trS {α:Type} (P:Program):Sem α→List Value→Option (α × List Value × List Ev)
  | .pure a,vs=>some (a,vs,[])
  | .load _ a k,vs=>match vs with
    | v::vs=>match trS P (k v) vs with
      | some (x,r,es)=>some (x,r,.load a v::es)
      | none=>none
    | []=>none
  | .program k,vs=>trS P (k P) vs
  | .mark _ k,vs=>trS P k vs
  | .store ..,_=>none
  | .new ..,_=>none
  | .shape ..,_=>none
  | .freeze ..,_=>none
  | .frozen ..,_=>none
  | .getObj ..,_=>none
  | .setObj ..,_=>none
  | .choose ..,_=>none
  | .sys ..,_=>none
  | .halt ..,_=>none
theorem trS_run {α:Type} {P:Program} {w:World} (s:Sem α):∀ {vs r:List Value} {x:α} {es:List Ev},trS P s vs=some (x,r,es)→Hold w es→s.run P w=.ok x w:=by
  induction s with
  | pure a =>
    intro vs r x es h _
    simp only [trS] at h
    injection h with h
    injection h with h1 h2
    subst h1
    rfl
  | load m a k ih =>
    intro vs r x es h hold
    cases vs with
    | nil=>simp [trS] at h
    | cons v vs =>
      simp only [trS] at h
      cases hk:trS P (k v) vs with
      | none=>rw [hk] at h; simp at h
      | some y =>
        obtain ⟨x',r',es'⟩:=y
        rw [hk] at h
        injection h with h
        injection h with h1 h2
        injection h2 with h2 h3
        subst h1 h2 h3
        obtain ⟨h1,h2⟩:=Hold.cons hold
        have h1:w.cell? a=some v:=h1
        simp only [Sem.run,h1]
        exact ih v hk h2
  | program k ih =>
    intro vs r x es h hold
    simp only [trS] at h
    simp only [Sem.run]
    exact ih P h hold
  | mark m k ih =>
    intro vs r x es h hold
    simp only [trS] at h
    simp only [Sem.run]
    exact ih h hold
  | store m a v k ih=>intro vs r x es h; simp [trS] at h
  | new o k ih=>intro vs r x es h; simp [trS] at h
  | shape o k ih=>intro vs r x es h; simp [trS] at h
  | freeze a n k ih=>intro vs r x es h; simp [trS] at h
  | frozen a k ih=>intro vs r x es h; simp [trS] at h
  | getObj a k ih=>intro vs r x es h; simp [trS] at h
  | setObj a o k ih=>intro vs r x es h; simp [trS] at h
  | choose q k ih=>intro vs r x es h; simp [trS] at h
  | sys q k ih=>intro vs r x es h; simp [trS] at h
  | halt q=>intro vs r x es h; simp [trS] at h

/-! ### 5. Operations whose outcome hangs on a bound -/
def leafEq (P:Program) (t:TypeId):Value→Value→Option Bool
  | .int k a,.int k' b=>match P.underlying t with
    | some (.int _)=>if k=k' then some (a == b) else none
    | _=>none
  | .bool a,.bool b=>match P.underlying t with
    | some .bool=>some (a == b)
    | _=>none
  | .string a,.string b=>match P.underlying t with
    | some .string=>some (a.toList == b.toList)
    | _=>none
  | _,_=>none
theorem leafEq_run {P:Program} {t:TypeId} {x y:Value} {d:Nat} {w:World} {r:Bool} (h:leafEq P t x y=some r):(Op.equalIn (d+1) t x y).run P w=.ok r w:=by
  unfold leafEq at h
  split at h
  · split at h
    · rename_i hu
      split at h
      · rename_i hk
        injection h with h
        subst h hk
        exact run_equalIn_int w d t _ _ _ _ hu
      · simp at h
    · simp at h
  · split at h
    · rename_i hu
      injection h with h
      subst h
      exact run_equalIn_bool' w d t _ _ hu
    · simp at h
  · split at h
    · rename_i hu
      injection h with h
      subst h
      exact run_equalIn_string w d t _ _ hu
    · simp at h
  · simp at h
def eqF (P:Program) (xs ys:Array Value):List Field→Option Bool
  | []=>some true
  | f::fs =>
    match f.name == "_" with
    | true=>none
    | false =>
      match trS P (part f.type xs f.offset) [] with
      | some (a,_,[]) =>
        match trS P (part f.type ys f.offset) [] with
        | some (b,_,[]) =>
          match leafEq P f.type a b with
          | some c=>match eqF P xs ys fs with
            | some r=>some (c&&r)
            | none=>none
          | none=>none
        | _=>none
      | _=>none
theorem eqF_run {P:Program} {xs ys:Array Value} {d:Nat} {w:World}:∀ {fs:List Field} {r:Bool},eqF P xs ys fs=some r→(Op.eqFields (d+1) xs ys fs).run P w=.ok r w
  | [],r,h=>by
    simp only [eqF] at h
    injection h with h
    subst h
    simp [Op.eqFields,go_sem]
  | f::fs,r,h=>by
    simp only [eqF] at h
    split at h
    · simp at h
    · rename_i hne
      split at h
      · rename_i a _ ha
        split at h
        · rename_i b _ hb
          split at h
          · rename_i c hc
            split at h
            · rename_i r' hr
              injection h with h
              subst h
              simp only [Op.eqFields, Sem.run_bind, Sem.run_ite, if_pos (show f.name ≠ "_" from by simpa using hne), Result.andThen_ok, trS_run _ ha trivial, trS_run _ hb trivial, leafEq_run hc]
              cases c
              · simp
              · simpa using eqF_run hr
            · simp at h
          · simp at h
        · simp at h
      · simp at h
def adr (A:Option Addr):Addr:=match A with | some ad=>ad | none=>⟨0,0,none⟩
def shiftA (cap l size:Nat) (a:Option Addr):Option Addr:=if cap=l then a else a.map (·.add (l*size))
def clause (P:Program) (L:Slots) (o:Oper):Option (Value × List Ev) :=
  match o.op with
  | .indexAddr t x ix =>
    match evL L x with
    | .slice A n _ =>
      match evL L ix with
      | .int _ i =>
        match P.underlying t with
        | some (.slice e) =>
          match P.info? e with
          | some inf=>some (.pointer (some ((adr A).add (i.toNat*inf.size))),[.need (A=some (adr A)∧0≤i∧i<(n:Int))])
          | none=>none
        | _=>none
      | _=>none
    | .pointer (some ad) =>
      match evL L ix with
      | .int _ i =>
        match P.underlying t with
        | some (.array n e) =>
          match P.info? e with
          | some inf=>some (.pointer (some (ad.add (i.toNat*inf.size))),[.need (0≤i∧i<(n:Int))])
          | none=>none
        | _=>none
      | _=>none
    | _=>none
  | .index t x ix =>
    match evL L x with
    | .string s =>
      match evL L ix with
      | .int _ i =>
        match P.underlying t with
        | some .string=>some (.int .u8 (bt s i),[.need (0≤i∧i<(s.size:Int))])
        | _=>none
      | _=>none
    | _=>none
  | .binOp op t x y _ =>
    match op with
    | .eql =>
      match evL L x with
      | .agg xs =>
        match evL L y with
        | .agg ys =>
          match P.underlying t with
          | some (.struct fs) =>
            match P.stoodInHeld t with
            | false=>match P.eqGuardType P.depth t with
              | false=>match eqF P xs ys fs.toList with
                | some r=>some (.bool r,[])
                | none=>none
              | true=>none
            | true=>none
          | _=>none
        | _=>none
      | _=>none
    | .neq =>
      match evL L x with
      | .agg xs =>
        match evL L y with
        | .agg ys =>
          match P.underlying t with
          | some (.struct fs) =>
            match P.stoodInHeld t with
            | false=>match P.eqGuardType P.depth t with
              | false=>match eqF P xs ys fs.toList with
                | some r=>some (.bool (!r),[])
                | none=>none
              | true=>none
            | true=>none
          | _=>none
        | _=>none
      | _=>none
    | .quo =>
      match evL L x with
      | .int k a =>
        match evL L y with
        | .int k' b=>if k=k' then some (.int k (k.wrap (a.tdiv b)),[.need (b≠0)]) else none
        | _=>none
      | _=>none
    | .rem =>
      match evL L x with
      | .int k a =>
        match evL L y with
        | .int k' b=>if k=k' then some (.int k (a.tmod b),[.need (b≠0)]) else none
        | _=>none
      | _=>none
    | .shl =>
      match evL L x with
      | .int k a =>
        match evL L y with
        | .int _ b=>some (.int k (k.wrap (a*2 ^ min b.toNat k.bits)),[.need (0≤b)])
        | _=>none
      | _=>none
    | .shr =>
      match evL L x with
      | .int k a =>
        match evL L y with
        | .int _ b=>some (.int k (a.fdiv (2 ^ min b.toNat k.bits)),[.need (0≤b)])
        | _=>none
      | _=>none
    | .add =>
      match evL L x with
      | .string a =>
        match evL L y with
        | .string b=>some (.string (a++b),[.need (a.size+b.size≤9223372036854775807)])
        | _=>none
      | _=>none
    | _=>none
  | .slice t x none (some hi) none =>
    match evL L hi with
    | .int _ i =>
      match evL L x with
      | .slice a _ cap =>
        match P.underlying t with
        | some (.slice e) =>
          match P.info? e with
          | some _=>some (.slice a i.toNat cap,[.need (0≤i∧i≤(cap:Int))])
          | none=>none
        | _=>none
      | .string s =>
        match P.underlying t with
        | some .string=>some (.string (s.extract 0 i.toNat),[.need (0≤i∧i≤(s.size:Int))])
        | _=>none
      | _=>none
    | _=>none
  | .slice t x (some lo) none none =>
    match evL L lo with
    | .int _ i =>
      match evL L x with
      | .slice a n cap =>
        match P.underlying t with
        | some (.slice e) =>
          match P.info? e with
          | some inf=>some (.slice (shiftA cap i.toNat inf.size a) (n - i.toNat) (cap - i.toNat),[.need (0≤i∧i≤(n:Int))])
          | none=>none
        | _=>none
      | .string s =>
        match P.underlying t with
        | some .string=>some (.string (s.extract i.toNat s.size),[.need (0≤i∧i≤(s.size:Int))])
        | _=>none
      | _=>none
    | _=>none
  | .slice t x (some lo) (some hi) none =>
    match evL L lo with
    | .int _ i =>
      match evL L hi with
      | .int _ j =>
        match evL L x with
        | .slice a _ cap =>
          match P.underlying t with
          | some (.slice e) =>
            match P.info? e with
            | some inf=>some (.slice (shiftA cap i.toNat inf.size a) (j.toNat - i.toNat) (cap - i.toNat),[.need (0≤i∧i≤j∧j≤(cap:Int))])
            | none=>none
          | _=>none
        | .string s =>
          match P.underlying t with
          | some .string=>some (.string (s.extract i.toNat j.toNat),[.need (0≤i∧i≤j∧j≤(s.size:Int))])
          | _=>none
        | _=>none
      | _=>none
    | _=>none
  | .slice t x (some lo) (some hi) (some mx) =>
    match evL L lo with
    | .int _ i =>
      match evL L hi with
      | .int _ j =>
        match evL L mx with
        | .int _ m =>
          match evL L x with
          | .slice a _ cap =>
            match P.underlying t with
            | some (.slice e) =>
              match P.info? e with
              | some inf=>some (.slice (shiftA m.toNat i.toNat inf.size a) (j.toNat - i.toNat) (m.toNat - i.toNat),[.need (0≤i∧i≤j∧j≤m∧m≤(cap:Int))])
              | none=>none
            | _=>none
          | _=>none
        | _=>none
      | _=>none
    | _=>none
  | _=>none
theorem run_underlying {P:Program} {t:TypeId} {d:TypeDesc} {w:World} (h:P.underlying t=some d):(underlying t).run P w=.ok d w:=by
  simp [underlying,go_sem,h]
theorem run_sizeOf {P:Program} {t:TypeId} {d:TypeInfo} {w:World} (h:P.info? t=some d):(sizeOf t).run P w=.ok d.size w:=by
  simp [sizeOf,typeInfo,go_sem,h]
theorem clause_run {P:Program} {L:Slots} {o:Oper} {v:Value} {es:List Ev} {w:World} (h:clause P L o=some (v,es)) (hold:Hold w es) :
    (execOp (evL L) o).run P w=.ok (.value v) w:=by
  unfold clause at h
  unfold execOp
  split at h
  · rename_i t x ix hop
    rw [hop]
    (repeat' split at h) <;> try (simp at h; done)
    · rename_i _ A n c hx _ k i hi _ e hu _ inf hinf
      injection h with h; injection h with h1 h2; subst h1 h2
      obtain ⟨hA,hn⟩:A=some (adr A)∧(0≤i∧i<(n:Int)):=hold
      generalize adr A=ad at hA ⊢
      subst hA
      simp [hx,hi,Instr.indexAt,asIntOf,go_sem,run_underlying hu,run_sizeOf hinf,hn,hu,hinf]
    · rename_i _ ad hx _ k i hi _ n e hu _ inf hinf
      injection h with h; injection h with h1 h2; subst h1 h2
      have hn:0≤i∧i<(n:Int):=hold
      simp [hx,hi,Instr.indexAt,Instr.sureAddr,asIntOf,go_sem,run_underlying hu,run_sizeOf hinf,hn,hu,hinf]
  · rename_i t x ix hop
    rw [hop]
    (repeat' split at h) <;> try (simp at h; done)
    rename_i _ s hx _ k i hi _ hu
    injection h with h; injection h with h1 h2; subst h1 h2
    have hn:0≤i∧i<(s.size:Int):=hold
    have hlt:i.toNat<s.size:=by omega
    simp [hx,hi,Instr.index,asIntOf,go_sem,run_underlying hu,hn,hu,bt,hlt]
  · rename_i op t x y t2 hop
    rw [hop]
    have agg:∀ {xs ys:Array Value} {fs:Array Field} {r:Bool},P.underlying t=some (.struct fs)→P.stoodInHeld t=false→eqF P xs ys fs.toList=some r→(Op.equalIn 10000 t (.agg xs) (.agg ys)).run P w=.ok r w:=by
      intro xs ys fs r hu hs hr
      have e:P.fieldsOf t=fs:=by simp [Program.fieldsOf,hu]
      rw [run_equalIn_agg w 9999 t xs ys (by rw [hu,e]) hs,e]
      exact eqF_run hr
    (repeat' split at h) <;> try (simp at h; done)
    · rename_i _ _ xs hx _ ys hy _ fs hu _ hs _ hg _ r hr
      injection h with h; injection h with h1 h2; subst h1 h2
      simp only [hx,hy]
      simp only [Sem.run_bind,Sem.run_pure,run_eqGuard_agg w _ t x y xs ys hg,Result.andThen_ok,run_eql_struct,agg hu hs hr]
    · rename_i _ _ xs hx _ ys hy _ fs hu _ hs _ hg _ r hr
      injection h with h; injection h with h1 h2; subst h1 h2
      simp only [hx,hy]
      simp only [Sem.run_bind,Sem.run_pure,run_eqGuard_agg w _ t x y xs ys hg,Result.andThen_ok,run_neq_struct,agg hu hs hr]
    · rename_i _ _ k a hx _ k' b hy hk
      injection h with h; injection h with h1 h2; subst h1 h2
      subst hk
      have hn:b≠0:=hold
      simp [hx,hy,eqGuard,binOp,Op.intDiv,go_sem,hn]
    · rename_i _ _ k a hx _ k' b hy hk
      injection h with h; injection h with h1 h2; subst h1 h2
      subst hk
      have hn:b≠0:=hold
      simp [hx,hy,eqGuard,binOp,Op.intDiv,go_sem,hn]
    · rename_i _ _ k a hx _ k' b hy
      injection h with h; injection h with h1 h2; subst h1 h2
      have hn:0≤b:=hold
      have hn2:¬ b<0:=by omega
      simp [hx,hy,eqGuard,binOp,Op.shift,go_sem,hn2]
    · rename_i _ _ k a hx _ k' b hy
      injection h with h; injection h with h1 h2; subst h1 h2
      have hn:0≤b:=hold
      have hn2:¬ b<0:=by omega
      simp [hx,hy,eqGuard,binOp,Op.shift,go_sem,hn2]
    · rename_i _ _ a hx _ b hy
      injection h with h; injection h with h1 h2; subst h1 h2
      have hn:a.size+b.size≤9223372036854775807:=hold
      have hn2:¬ (((a.size+b.size:Nat):Int) > IntKind.i64.max):=by
        have:IntKind.i64.max=9223372036854775807:=by rfl
        omega
      simp only [hx,hy,eqGuard,binOp,Op.stringOp,if_neg hn2]
      rfl
  · rename_i t x hi hop
    rw [hop]
    (repeat' split at h) <;> try (simp at h; done)
    · rename_i _ k i hi _ a n cap hx _ e hu _ inf hinf
      injection h with h; injection h with h1 h2; subst h1 h2
      have hn:0≤i∧i≤(cap:Int):=hold
      cases a <;> simp [hx,hi,Instr.sliceAt,Instr.slice,Instr.sliceBounds,Instr.sliceBound,asIntOf,go_sem,run_underlying hu,run_sizeOf hinf,hn,hu,hinf,Addr.add]
    · rename_i _ k i hi _ s hx _ hu
      injection h with h; injection h with h1 h2; subst h1 h2
      have hn:0≤i∧i≤(s.size:Int):=hold
      simp [hx,hi,Instr.sliceAt,Instr.slice,Instr.sliceBounds,Instr.sliceBound,asIntOf,go_sem,run_underlying hu,hn,hu]
  · rename_i t x lo hop
    rw [hop]
    (repeat' split at h) <;> try (simp at h; done)
    · rename_i _ k i hi _ a n cap hx _ e hu _ inf hinf
      injection h with h; injection h with h1 h2; subst h1 h2
      have hn:0≤i∧i≤(n:Int):=hold
      simp [hx,hi,Instr.sliceAt,Instr.slice,Instr.sliceBounds,Instr.sliceBound,asIntOf,go_sem,run_underlying hu,run_sizeOf hinf,hn,hu,hinf,shiftA]
    · rename_i _ k i hi _ s hx _ hu
      injection h with h; injection h with h1 h2; subst h1 h2
      have hn:0≤i∧i≤(s.size:Int):=hold
      simp [hx,hi,Instr.sliceAt,Instr.slice,Instr.sliceBounds,Instr.sliceBound,asIntOf,go_sem,run_underlying hu,hn,hu]
  · rename_i t x lo hi hop
    rw [hop]
    (repeat' split at h) <;> try (simp at h; done)
    · rename_i _ k i hi _ k' j hj _ a n cap hx _ e hu _ inf hinf
      injection h with h; injection h with h1 h2; subst h1 h2
      have hn:0≤i∧i≤j∧j≤(cap:Int):=hold
      have h0:0≤j:=by omega
      have h1:i≤max j 0:=by omega
      simp [hx,hi,hj,Instr.sliceAt,Instr.slice,Instr.sliceBounds,Instr.sliceBound,asIntOf,go_sem,run_underlying hu,run_sizeOf hinf,hn,hu,hinf,h0,h1,shiftA]
    · rename_i _ k i hi _ k' j hj _ s hx _ hu
      injection h with h; injection h with h1 h2; subst h1 h2
      have hn:0≤i∧i≤j∧j≤(s.size:Int):=hold
      have h0:0≤j:=by omega
      have h1:i≤max j 0:=by omega
      simp [hx,hi,hj,Instr.sliceAt,Instr.slice,Instr.sliceBounds,Instr.sliceBound,asIntOf,go_sem,run_underlying hu,hn,hu,h0,h1]
  · rename_i t x lo hi mx hop
    rw [hop]
    (repeat' split at h) <;> try (simp at h; done)
    · rename_i _ k i hi _ k' j hj _ k'' m hm _ a n cap hx _ e hu _ inf hinf
      injection h with h; injection h with h1 h2; subst h1 h2
      have hn:0≤i∧i≤j∧j≤m∧m≤(cap:Int):=hold
      have h0:0≤j:=by omega
      have h1:i≤max j 0:=by omega
      have h2:0≤m:=by omega
      have h3:j≤max m 0:=by omega
      simp [hx,hi,hj,hm,Instr.sliceAt,Instr.slice,Instr.sliceBounds,Instr.sliceBound,asIntOf,go_sem,run_underlying hu,run_sizeOf hinf,hn,hu,hinf,h0,h1,h2,h3,shiftA]
  · simp at h

/-! ### 6. A row of such operations -/
def opsL:Op→List Operand
  | .alloc _ | .ready _ | .waits _=>[]
  | .move x | .assign x | .box _ x | .load _ x | .nilCheck x | .unOp _ _ x | .convert _ _ x | .sliceToArrayPointer _ x | .makeInterface _ x
  | .makeChan _ x | .fieldAddr _ x _ | .field _ x _ | .range _ x | .next x _ | .entry x | .typeAssert x _ _ _ | .extract x _ | .panic x | .recv _ x _=>[x]
  | .pick c a b=>[c,a,b]
  | .build _ ps | .buildSlice _ _ ps=>ps.toList.map (·.2)
  | .store _ a v | .binOp _ _ a v _ | .makeSlice _ a v | .indexAddr _ a v | .index _ a v | .lookup _ a v _ | .mapEntry _ a v | .send a v=>[a,v]
  | .makeFunc _ first captured=>first.toList++captured.toList
  | .makeMap _ r=>r.toList
  | .slice _ x l h m=>x::(l.toList++h.toList++m.toList)
  | .mapUpdate _ m k v | .entryStore _ m k v | .insert _ m k v=>[m,k,v]
  | .call c | .go c | .defer c=>(match c.callee with | .value f=>[f] | .invoke r _=>[r] | .builtin _=>[])++c.args.toList
  | .select _ _=>[]
theorem mem_opsL {op:Op} (hs:∀ cs b,op≠.select cs b) {x:Operand} (h:x∈op.operands):x∈opsL op:=by
  cases op <;> simp only [Op.operands,opsL] at h ⊢ <;> try (simpa using h)
  case select cs b=>exact absurd rfl (hs cs b)
  case call c=>simp only [Call.operands] at h; cases hc:c.callee <;> simp_all
  case go c=>simp only [Call.operands] at h; cases hc:c.callee <;> simp_all
  case defer c=>simp only [Call.operands] at h; cases hc:c.callee <;> simp_all
def isSelect:Op→Bool
  | .select _ _=>true
  | _=>false
def okOp (N:Nat) (L:Slots) (o:Oper):Bool :=
  (opsL o.op).all (knows L)&&!isSelect o.op&&(match o.dst with | some d=>Nat.blt d N | none=>true)
theorem okOp_spec {N:Nat} {a:Act} {L:Slots} {o:Oper} (h:okOp N L o=true) (hf:Fr N a L):execOp a.eval o=execOp (evL L) o∧∀ t,o.dst=some t→t<N:=by
  unfold okOp at h
  simp only [Bool.and_eq_true,List.all_eq_true,Bool.not_eq_true'] at h
  obtain ⟨⟨h1,h2⟩,h3⟩:=h
  have hs:∀ cs b,o.op≠.select cs b:=by
    intro cs b he
    rw [he] at h2
    simp [isSelect] at h2
  refine ⟨execOp_congr o hs (fun x hx=>hf.eval (h1 x (mem_opsL hs hx))),fun t ht=>?_⟩
  rw [ht] at h3
  simpa using h3
def wantL (ops:Array Oper) (L:Slots):Option (Nat × Bool)→Option Bool
  | none=>some true
  | some (j,want) =>
    match ops[j]? with
    | some o=>match o.dst with
      | some d=>match lk L d with
        | some (.bool b)=>some (b == want)
        | some (.tuple _)=>some false
        | _=>none
      | none=>none
    | none=>none
theorem wantL_spec {N:Nat} {a:Act} {L:Slots} {ops:Array Oper} {o:Oper} {b:Bool} (h:wantL ops L o.guard=some b) (hf:Fr N a L):Region.wanted o (yielded ops a.tmps)=b:=by
  unfold Region.wanted
  cases hg:o.guard with
  | none=>rw [hg] at h; simpa [wantL] using h
  | some g =>
    obtain ⟨j,want⟩:=g
    rw [hg] at h
    simp only [wantL] at h
    split at h
    · rename_i o' ho
      split at h
      · rename_i d hd
        split at h
        · rename_i u hu
          injection h with h
          have:=hf.has _ _ hu
          simp [yielded,ho,hd,this,← h]
        · rename_i u hu
          injection h with h
          have:=hf.has _ _ hu
          simp [yielded,ho,hd,this,← h]
        · simp at h
      · simp at h
    · simp at h
def stepT (P:Program) (L:Slots) (o:Oper) (vs:List Value):Option (Value × List Value × List Ev) :=
  match clause P L o with
  | some (v,es)=>some (v,vs,es)
  | none=>match trS P (execOp (evL L) o) vs with
    | some (.value v,r,es)=>some (v,r,es)
    | _=>none
theorem stepT_run {P:Program} {L:Slots} {o:Oper} {vs r:List Value} {v:Value} {es:List Ev} {w:World} (h:stepT P L o vs=some (v,r,es)) (hold:Hold w es) :
    (execOp (evL L) o).run P w=.ok (.value v) w:=by
  unfold stepT at h
  split at h
  · rename_i v' es' hc
    injection h with h
    injection h with h1 h2
    injection h2 with h2 h3
    subst h1 h2 h3
    exact clause_run hc hold
  · split at h
    · rename_i v' r' es' hc
      injection h with h
      injection h with h1 h2
      injection h2 with h2 h3
      subst h1 h2 h3
      exact trS_run _ hc hold
    · simp at h
def runT (P:Program) (N:Nat) (ops:Array Oper):Nat→Nat→Slots→List Value→Option (Slots × List Ev)
  | 0,_,L,_=>some (L,[])
  | n+1,i,L,vs =>
    match ops[i]? with
    | none=>none
    | some o =>
      match okOp N L o with
      | false =>
        match wantL ops L o.guard with
        | some false=>match o.dst with
          | some d=>match Nat.blt d N with
            | true=>runT P N ops n (i+1) (putL L o.dst undef) vs
            | false=>none
          | none=>runT P N ops n (i+1) L vs
        | _=>none
      | true =>
        match wantL ops L o.guard with
        | none=>none
        | some false=>runT P N ops n (i+1) (putL L o.dst undef) vs
        | some true =>
          match stepT P L o vs with
          | none=>none
          | some (v,r,es) =>
            match runT P N ops n (i+1) (putL L o.dst v) r with
            | none=>none
            | some (L',fs)=>some (L',es++fs)
theorem runT_spec {P:Program} {N:Nat} {ops:Array Oper} {Q:Exit→Act→World→Prop} {w:World} {m:Nat}:∀ (n i:Nat) {L L':Slots} {vs:List Value} {es:List Ev},
    runT P N ops n i L vs=some (L',es)→Hold w es→(∀ a,Fr N a L'→wpOps P ops Q (List.range' (i+n) m) a w)→∀ a,Fr N a L→wpOps P ops Q (List.range' i (n+m)) a w
  | 0,i,L,L',vs,es,h,hold,K,a,hf=>by
    simp only [runT] at h
    injection h with h
    injection h with h1 h2
    subst h1 h2
    simpa using K a hf
  | n+1,i,L,L',vs,es,h,hold,K,a,hf=>by
    have K':∀ a,Fr N a L'→wpOps P ops Q (List.range' (i+1+n) m) a w:=by
      intro a ha
      have:=K a ha
      rwa [show i+(n+1)=i+1+n by omega] at this
    have e1:n+1+m=(n+m)+1:=by omega
    rw [e1,List.range'_succ]
    simp only [runT] at h
    simp only [wpOps]
    split at h
    · simp at h
    · rename_i o ho
      simp only [ho]
      split at h
      · split at h
        · rename_i hw
          have hw:=wantL_spec hw hf
          simp only [hw,if_false,Bool.false_eq_true]
          split at h
          · rename_i d hd
            split at h
            · rename_i hlt
              refine runT_spec n (i+1) h hold K' _ ?_
              refine hf.put ?_ undef
              intro t ht
              rw [hd] at ht
              injection ht with ht
              subst ht
              simpa using hlt
            · simp at h
          · rename_i hd
            rw [hd]
            exact runT_spec n (i+1) h hold K' _ hf
        · simp at h
      · rename_i hok
        obtain ⟨hx,hd⟩:=okOp_spec hok hf
        split at h
        · simp at h
        · rename_i hw
          have hw:=wantL_spec hw hf
          simp only [hw,if_false,Bool.false_eq_true]
          exact runT_spec n (i+1) h hold K' _ (hf.put hd undef)
        · rename_i hw
          have hw:=wantL_spec hw hf
          simp only [hw,if_true]
          split at h
          · simp at h
          · rename_i v r es1 hst
            split at h
            · simp at h
            · rename_i L2 fs hrec
              injection h with h
              injection h with h1 h2
              subst h1 h2
              obtain ⟨hold1,hold2⟩:=Hold.append hold
              refine .inl ?_
              unfold Oper.wp
              rw [hx,stepT_run hst hold1,Oper.upon_value]
              exact runT_spec n (i+1) hrec hold2 K' _ (hf.put hd v)

/-! ### 7. The goals of a walk -/
def opsAt (c:Code) (p:List Nat):Array Oper:=match nav c p with | .region _ ops _=>ops | _=>#[]
def isReg (c:Code) (p:List Nat):Option Bool:=match nav c p with | .region _ _ d=>some d | _=>none
structure Ctx where
  P:Program
  f:FuncId
  N:Nat
  c:Code
def RunL (F:Ctx) (R:Ending→World→Prop) (es:List En) (L:Slots) (w:World):Prop :=
  ∀ a,Fr F.N a L→Run F.P F.f R (es.map (En.item F.c)) a w
def RgL (F:Ctx) (R:Ending→World→Prop) (p:List Nat) (es:List En) (i:Nat) (L:Slots) (w:World):Prop :=
  ∀ a,Fr F.N a L→wpOps F.P (opsAt F.c p) (fun e a w=>e=.normal∧Run F.P F.f R (es.map (En.item F.c)) a w) (List.range' i ((opsAt F.c p).size - i)) a w
section
variable {F:Ctx} {R:Ending→World→Prop} {es es':List En} {L L':Slots} {w:World} {p:List Nat} {i:Nat}
theorem RunL.adm (n:Nat) (h:adm F.c n es=some es') (k:RunL F R es' L w):RunL F R es L w:=fun a hf=>Run.adm n h (k a hf)
theorem RunL.keep (ts:List Nat) (h:keep L ts=some L') (k:RunL F R es L' w):RunL F R es L w:=fun a hf=>k a (hf.keep h)
theorem RunL.reg (h:isReg F.c p=some false) (k:RgL F R p es 0 L w):RunL F R (.c p::es) L w:=by
  intro a hf
  have h0:=k a hf
  unfold isReg at h
  split at h
  · rename_i id ops d hn
    injection h with h
    subst h
    simp only [List.map_cons,En.item,hn]
    refine Run.of_wp (wp_region ?_)
    simp only [opsAt,hn,Nat.sub_zero] at h0
    rw [List.range_eq_range']
    exact h0
  · simp at h
theorem RgL.run (j:Nat) {vs:List Value} {evs:List Ev} (h:runT F.P F.N (opsAt F.c p) (j - i) i L vs=some (L',evs)) (hij:(Nat.ble i j&&Nat.ble j (opsAt F.c p).size)=true) (hold:Hold w evs)
    (k:RgL F R p es j L' w):RgL F R p es i L w:=by
  simp only [Bool.and_eq_true,Nat.ble_eq] at hij
  intro a hf
  have e:(opsAt F.c p).size - i=(j - i)+((opsAt F.c p).size - j):=by omega
  rw [e]
  refine runT_spec (j - i) i h hold (fun a ha=>?_) a hf
  rw [show i+(j - i)=j by omega]
  exact k a ha
theorem RgL.keep (ts:List Nat) (h:keep L ts=some L') (k:RgL F R p es i L' w):RgL F R p es i L w:=fun a hf=>k a (hf.keep h)
theorem RgL.done (h:Nat.beq (opsAt F.c p).size i=true) (k:RunL F R es L w):RgL F R p es i L w:=by
  intro a hf
  have h:=Nat.eq_of_beq_eq_true h
  rw [h,Nat.sub_self]
  exact ⟨rfl,k a hf⟩
def condAt (c:Code) (p:List Nat):Option Operand:=match nav c p with | .cond x _ _=>some x | _=>none
theorem RunL.cond {x:Operand} {b:Bool} (h:condAt F.c p=some x) (hk:knows L x=true) (hv:evL L x=.bool b) (k:RunL F R (.c (p++[if b then 0 else 1])::es) L w):RunL F R (.c p::es) L w:=by
  intro a hf
  unfold condAt at h
  split at h
  · rename_i y t e hn
    injection h with h
    subst h
    have hb:a.eval y=.bool b:=by rw [hf.eval hk,hv]
    have hk:=k a hf
    simp only [List.map_cons,En.item,nav_append,hn] at hk ⊢
    refine Run.step (fun cs=>step_cond hb) ?_
    cases b
    · simpa [nav] using hk
    · simpa [nav] using hk
  · simp at h
def Ret (S:Value→World→Prop) (e:Ending) (w:World):Prop:=∃ v,e=.returned v∧S v w
theorem RunL.ret {S:Value→World→Prop} {fn:Func} {v:Value} {L2:Slots} (ht:(match es with | []=>true | .c p::_=>(match nav F.c p with | .ret=>true | _=>false) | _=>false)=true)
    (hf:F.P.funcs[F.f]? = some fn) (hr:∀ a,Fr F.N a L→(results fn a.tmps).run F.P w=.ok v w) (hS:S v w):RunL F (Ret S) es L w:=by
  intro a ha
  refine Run.leave ?_ hf ha.defers (hr a ha) ⟨v,rfl,hS⟩
  split at ht
  · exact .inl rfl
  · split at ht
    · rename_i p k hn
      exact .inr ⟨_,by simp only [List.map_cons,En.item,hn]; rfl⟩
    · simp at ht
  · simp at ht
def resL (L:Slots):List ResultVar→Option Value
  | []=>some (.tuple #[])
  | [.tmp t]=>lk L t
  | [.tmp t,.tmp u]=>match lk L t,lk L u with | some a,some b=>some (.tuple #[a,b]) | _,_=>none
  | [.tmp t,.tmp u,.tmp x]=>match lk L t,lk L u,lk L x with | some a,some b,some c=>some (.tuple #[a,b,c]) | _,_,_=>none
  | [.tmp t,.tmp u,.tmp x,.tmp y]=>match lk L t,lk L u,lk L x,lk L y with | some a,some b,some c,some d=>some (.tuple #[a,b,c,d]) | _,_,_,_=>none
  | _=>none
theorem resL_run {P:Program} {N:Nat} {fn:Func} {a:Act} {L:Slots} {v:Value} {w:World} (h:resL L fn.results.toList=some v) (hf:Fr N a L):(results fn a.tmps).run P w=.ok v w:=by
  have key:∀ t u,lk L t=some u→a.tmps[t]?.getD undef=u:=fun t u hu=>by rw [hf.has t u hu]; rfl
  generalize hr:fn.results=rs at h
  obtain ⟨l⟩:=rs
  simp only at h
  unfold resL at h
  split at h
  · injection h with h
    subst h
    simp [results,hr]
  · rename_i t
    have:=key _ _ h
    simp [results,hr,this]
  · split at h
    · rename_i a1 a2 h1 h2
      injection h with h
      subst h
      have h1:=key _ _ h1
      have h2:=key _ _ h2
      simp [results,hr,h1,h2]
    · simp at h
  · split at h
    · rename_i a1 a2 a3 h1 h2 h3
      injection h with h
      subst h
      have h1:=key _ _ h1
      have h2:=key _ _ h2
      have h3:=key _ _ h3
      simp [results,hr,h1,h2,h3]
    · simp at h
  · split at h
    · rename_i a1 a2 a3 a4 h1 h2 h3 h4
      injection h with h
      subst h
      have h1:=key _ _ h1
      have h2:=key _ _ h2
      have h3:=key _ _ h3
      have h4:=key _ _ h4
      simp [results,hr,h1,h2,h3,h4]
    · simp at h
  · simp at h
def isEnd (c:Code):List En→Bool
  | []=>true
  | .c p::_=>(match nav c p with | .ret=>true | _=>false)
  | _=>false
theorem RunL.done {S:Value→World→Prop} {fn:Func} {v:Value} (ht:isEnd F.c es=true) (hf:F.P.funcs[F.f]? = some fn) (hr:resL L fn.results.toList=some v) (hS:S v w):RunL F (Ret S) es L w :=
  RunL.ret (L2:=L) (by unfold isEnd at ht; exact ht) hf (fun _ ha=>resL_run hr ha) hS
def argL:Nat→List Value→Slots
  | _,[]=>[]
  | i,v::vs=>(i,v)::argL (i+1) vs
theorem argL_has:∀ (vs:List Value) (i t:Nat) (v:Value),lk (argL i vs) t=some v→i≤t∧vs[t - i]? = some v
  | [],i,t,v,h=>by simp [argL,lk] at h
  | u::vs,i,t,v,h=>by
    simp only [argL,lk] at h
    split at h
    · rename_i he
      have he:=Nat.eq_of_beq_eq_true he
      subst he
      exact ⟨Nat.le_refl _,by simpa using h⟩
    · obtain ⟨h1,h2⟩:=argL_has vs (i+1) t v h
      refine ⟨by omega,?_⟩
      rw [show t - i=(t - (i+1))+1 by omega]
      simpa using h2
theorem calls_of_runL {fn:Func} (hf:F.P.funcs[F.f]? = some fn) (hb:fn.body=some F.c) (hN:fn.ntmps=F.N) {args:List Value} (hle:Nat.ble args.length F.N=true) (h:RunL F R [.c []] (argL 0 args) w):Calls F.P F.f args.toArray w R:=by
  refine calls_of_run hf hb ?_
  have:=h { tmps:=args.toArray++Array.replicate (fn.ntmps - args.toArray.size) undef,defers:=[] } ⟨?_,rfl,fun t v hv=>?_⟩
  · have e:nav F.c []=F.c:=by cases F.c <;> rfl
    simpa [En.item,e] using this
  · simp only [Nat.ble_eq] at hle
    simp [hN]
    omega
  · obtain ⟨_,h2⟩:=argL_has args 0 t v hv
    have hlt:t<args.length:=by
      have:=List.getElem?_eq_some_iff.1 (show args[t]? = some v by simpa using h2)
      exact this.1
    rw [Array.getElem?_append_left (by simpa using hlt)]
    simpa using h2
end
end Go.Proofs.YtedkdnhhohcocaaDoor.Kit
