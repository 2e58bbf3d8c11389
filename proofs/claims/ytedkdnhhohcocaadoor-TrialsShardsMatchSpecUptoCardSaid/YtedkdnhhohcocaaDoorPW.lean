/- Plain aids: words, loops over lists. -/
import Derived.Lib.SlTrimSet
import Derived.Test.YtedkdnhhohcocaaDoorZD
import Derived.Test.YtedkdnhhohcocaaDoorKitL
import Derived.ChangeKeysEq
set_option linter.unusedVariables false
set_option linter.unusedSimpArgs false
namespace Go.Proofs.YtedkdnhhohcocaaDoor
open Go Go.Proofs.YtedkdnhhohcocaaDoor.Kit

/-! loops over lists -/
def rangeS {α β S:Type} (body:Int→α→S→(S→Option β)→Option β) (e:S→Option β):Int→List α→S→Option β
  | _,[],s=>e s
  | i,x::xs,s=>body i x s (fun s'=>rangeS body e (i+1) xs s')
theorem rangeS_of {α β S:Type} {xs:List α} {body:Int→α→S→(S→Option β)→Option β} {e:S→Option β} {L:Nat→S→Int→Option β} (hlen:xs.length≤4611686018427387904)
    (hL:∀ k s v,L (k+1) s v=bif decide (v<(xs.length:Int)) then ((at? xs v).bind fun x=>body v x s (fun s'=>L k s' (w64 (v+1)))) else e s) :
    ∀ (d k:Nat) (v:Int) (s:S),0≤v→v≤xs.length→(xs.length:Int) - v=d→d<k→L k s v=rangeS body e v (xs.drop v.toNat) s:=by
  intro d
  induction d with
  | zero =>
    intro k v s h0 h1 hd hk
    obtain ⟨k,rfl⟩:∃ m,k=m+1:=⟨k - 1,by omega⟩
    have hlt:decide (v<(xs.length:Int))=false:=by simp; omega
    have hdrop:xs.drop v.toNat=[]:=List.drop_eq_nil_of_le (by omega)
    rw [hL,hlt,hdrop]
    rfl
  | succ d ih =>
    intro k v s h0 h1 hd hk
    obtain ⟨k,rfl⟩:∃ m,k=m+1:=⟨k - 1,by omega⟩
    have hlt:decide (v<(xs.length:Int))=true:=by simp; omega
    have hn:v.toNat<xs.length:=by omega
    rw [hL,hlt]
    have hat:at? xs v=some xs[v.toNat]:=by simp [at?,h0,hn]
    have hw:w64 (v+1)=v+1:=w64_id (by omega) (by omega)
    have hdrop:xs.drop v.toNat=xs[v.toNat]::xs.drop (v+1).toNat:=by
      rw [List.drop_eq_getElem_cons hn]
      congr 2
      omega
    rw [hat,hdrop,hw]
    simp only [Option.bind_some,cond_true,rangeS]
    congr 1
    funext s'
    exact ih k (v+1) s' (by omega) (by omega) (by omega) (by omega)
theorem rangeS_all {α β S:Type} {xs:List α} {body:Int→α→S→(S→Option β)→Option β} {e:S→Option β} {L:Nat→S→Int→Option β} (hlen:xs.length≤4611686018427387904)
    (hL:∀ k s v,L (k+1) s v=bif decide (v<(xs.length:Int)) then ((at? xs v).bind fun x=>body v x s (fun s'=>L k s' (w64 (v+1)))) else e s) (s:S):L big s 0=rangeS body e 0 xs s:=by
  have:=rangeS_of hlen hL xs.length big 0 s (by omega) (by omega) (by omega) (by unfold big; omega)
  simpa using this

def rangeP {α β:Type} (B:Option α→α→Option β→Option β) (e:Option β):Option α→List α→Option β
  | _,[]=>e
  | p,x::xs=>B p x (rangeP B e (some x) xs)
theorem rangeP_all {α β:Type} {xs:List α} {B:Option α→α→Option β→Option β} {e:Option β} {L:Nat→Int→Option β} (hlen:xs.length≤4611686018427387904)
    (hL:∀ k v,0≤v→v≤(xs.length:Int)→L (k+1) v=bif decide (v<(xs.length:Int)) then ((at? xs v).bind fun x=>B (if 0<v then at? xs (v - 1) else none) x (L k (w64 (v+1)))) else e):L big 0=rangeP B e none xs:=by
  have key:∀ (d k:Nat) (v:Int),0≤v→v≤xs.length→(xs.length:Int) - v=d→d<k→L k v=rangeP B e (if 0<v then at? xs (v - 1) else none) (xs.drop v.toNat):=by
    intro d
    induction d with
    | zero =>
      intro k v h0 h1 hd hk
      obtain ⟨k,rfl⟩:∃ m,k=m+1:=⟨k - 1,by omega⟩
      rw [hL k v h0 h1,decide_eq_false (show ¬ v<(xs.length:Int) by omega),List.drop_eq_nil_of_le (show xs.length≤v.toNat by omega)]
      rfl
    | succ d ih =>
      intro k v h0 h1 hd hk
      obtain ⟨k,rfl⟩:∃ m,k=m+1:=⟨k - 1,by omega⟩
      have hn:v.toNat<xs.length:=by omega
      have hat:at? xs v=some xs[v.toNat]:=by simp [at?,h0,hn]
      have hw:w64 (v+1)=v+1:=w64_id (by omega) (by omega)
      rw [hL k v h0 h1,decide_eq_true (show v<(xs.length:Int) by omega),hat,hw,List.drop_eq_getElem_cons hn,ih k (v+1) (by omega) (by omega) (by omega) (by omega)]
      simp only [Option.bind_some,cond_true,rangeP]
      rw [if_pos (show 0<v+1 by omega),show v+1 - 1=v by omega,hat,show (v+1).toNat=v.toNat+1 by omega]
  have:=key xs.length big 0 (by omega) (by omega) (by omega) (by unfold big; omega)
  simpa using this
def prevB {α:Type} (P:α→Bool):Option α→Bool
  | some y=>P y
  | none=>false
theorem prev_eq {α:Type} {xs:List α} {v:Int} {P:α→Bool} (h0:0≤v) (h1:v≤(xs.length:Int)) (hlen:xs.length≤4611686018427387904) :
    (bif decide (0<v) then ((at? xs (w64 (v - 1))).bind fun y=>some (P y)) else some false)=some (prevB P (if 0<v then at? xs (v - 1) else none)):=by
  by_cases h:0<v
  · have hn:(v - 1).toNat<xs.length:=by omega
    have hat:at? xs (v - 1)=some xs[(v - 1).toNat]:=by unfold at?; rw [if_pos (by omega),List.getElem?_eq_getElem hn]
    rw [decide_eq_true h,w64_id (by omega) (by omega),if_pos h,hat]
    rfl
  · rw [decide_eq_false h,if_neg h]
    rfl
theorem bind_at {α β:Type} {xs:List α} {v:Int} {f g:α→Option β} (h:∀ x∈xs,f x=g x):(at? xs v).bind f=(at? xs v).bind g:=by
  cases hx:at? xs v with
  | none=>rfl
  | some x =>
    obtain ⟨h0,h1,h2⟩:=at?_some hx
    exact h x (List.mem_of_getElem? h2)
theorem rangeP_some {α β:Type} {B:Option α→α→Option β→Option β} {e:Option β} (hB:∀ p x k,(∃ r,k=some r)→∃ r,B p x k=some r) (he:∃ r,e=some r):∀ (xs:List α) (p:Option α),∃ r,rangeP B e p xs=some r
  | [],_=>he
  | x::xs,p=>hB p x _ (rangeP_some hB he xs (some x))
theorem u8_all {p:UInt8→Bool} (h:(List.range 256).all (fun n=>p (UInt8.ofNat n))=true) (c:UInt8):p c=true:=by
  have:=List.all_eq_true.1 h c.toNat (List.mem_range.2 c.toNat_lt)
  simpa using this
/-! words -/
def okB (b:UInt8):Bool:=(decide (97≤b.toNat)&&decide (b.toNat≤122))||(decide (48≤b.toNat)&&decide (b.toNat≤57))||b.toNat == 45||b.toNat == 95
def isWordB (s:ByteArray):Bool:=decide (1≤s.size)&&decide (s.size≤40)&&(match s.data.toList with | b::_=>decide (97≤b.toNat)&&decide (b.toNat≤122) | []=>false)&&s.data.toList.all okB
theorem bt_of {s:ByteArray} {i:Nat} {b:UInt8} (h:s.data.toList[i]? = some b):bt s (i:Int)=(b.toNat:Int):=by
  have hlt:=(List.getElem?_eq_some_iff.1 h).1
  have hlt':i<s.size:=by simpa using hlt
  have hb:=(List.getElem?_eq_some_iff.1 h).2
  unfold bt
  simp only [Int.toNat_natCast]
  rw [dif_pos hlt']
  congr 1
  rw [← hb]
  simp [ByteArray.getElem_eq_getElem_data]
theorem sEq_iff {a b:ByteArray}:sEq a b=true↔a=b:=by
  unfold sEq
  constructor
  · intro h
    have h:=of_decide_eq_true (by simpa using h:decide (a.toList=b.toList)=true)
    have e:∀ (x:ByteArray),x.toList=x.data.toList:=fun x=>by simp [ByteArray.toList_eq]
    rw [e,e] at h
    cases a; cases b
    simp at h
    exact congrArg _ h
  · rintro rfl
    simp
theorem dropWhile_nil {α:Type} {p:α→Bool} {l:List α}:l.dropWhile p=[]↔l.all p=true:=by
  induction l with
  | nil=>simp
  | cons a l ih =>
    simp only [List.dropWhile_cons,List.all_cons]
    cases h:p a <;> simp [ih]
theorem trimS_nil (l cs:List UInt8):(Lib.trimS l cs == [])=l.all (fun b=>cs.contains b):=by
  have h1:Lib.trimS l cs=[]↔l.all (fun b=>cs.contains b)=true:=by
    unfold Lib.trimS Lib.trimLeftS Lib.trimRightS
    constructor
    · intro h
      have h:=dropWhile_nil.1 h
      rw [List.all_reverse] at h
      by_cases hn:l.reverse.dropWhile (fun b=>cs.contains b)=[]
      · have:=dropWhile_nil.1 hn
        rwa [List.all_reverse] at this
      · exfalso
        have hh:=List.head_dropWhile_not (p:=fun b=>cs.contains b) (l:=l.reverse) hn
        have hm:=List.head_mem hn
        have:=List.all_eq_true.1 h _ hm
        rw [hh] at this
        cases this
    · intro h
      have:l.reverse.dropWhile (fun b=>cs.contains b)=[]:=dropWhile_nil.2 (by rw [List.all_reverse]; exact h)
      rw [this]
      rfl
  cases h:l.all (fun b=>cs.contains b)
  · have:Lib.trimS l cs≠[]:=fun hc=>by rw [h1.1 hc] at h; cases h
    cases hh:Lib.trimS l cs with
    | nil=>exact absurd hh this
    | cons a as=>rfl
  · rw [h1.2 h]
    rfl
theorem eqLoop {α:Type} {xs:List α} {P:α→α→Bool} {L:Nat→Int→Option Bool} (hlen:xs.length≤4611686018427387904)
    (hL:∀ k v,L (k+1) v=bif decide (v<(xs.length:Int)) then ((at? xs v).bind fun x=>(at? xs v).bind fun y=>bif !P x y then some false else L k (w64 (v+1))) else some true) (hP:∀ x∈xs,P x x=true):L big 0=some true:=by
  have h2:∀ (d k:Nat) (v:Int),0≤v→v≤xs.length→(xs.length:Int) - v=d→d<k→L k v=some true:=by
    intro d
    induction d with
    | zero =>
      intro k v h0 h1 hd hk
      obtain ⟨k,rfl⟩:∃ m,k=m+1:=⟨k - 1,by omega⟩
      rw [hL,decide_eq_false (by omega)]
      rfl
    | succ d ih =>
      intro k v h0 h1 hd hk
      obtain ⟨k,rfl⟩:∃ m,k=m+1:=⟨k - 1,by omega⟩
      have hn:v.toNat<xs.length:=by omega
      have hat:at? xs v=some xs[v.toNat]:=by simp [at?,h0,hn]
      rw [hL,decide_eq_true (by omega),hat,w64_id (by omega) (by omega)]
      simp only [Option.bind_some,cond_true,hP _ (List.getElem_mem hn),Bool.not_true,cond_false]
      exact ih k (v+1) (by omega) (by omega) (by omega) (by omega)
  exact h2 xs.length big 0 (by omega) (by omega) (by omega) (by unfold big; omega)
end Go.Proofs.YtedkdnhhohcocaaDoor
