/- Plain aids: words, loops over lists. -/
import Derived.Lib.SlTrimSet
import Derived.Test.YtgmfdaibmaakpaaDoorZD
import Derived.Test.YtgmfdaibmaakpaaDoorKitL
import Derived.ChangeKeysEq
set_option linter.unusedVariables false
set_option linter.unusedSimpArgs false
namespace Go.Proofs.YtgmfdaibmaakpaaDoor
open Go Go.Proofs.YtgmfdaibmaakpaaDoor.Kit

/-! loops over lists -/
def rangeS {α β S:Type} (body:Int→α→S→(S→Option β)→Option β) (e:S→Option β):Int→List α→S→Option β
  | _,[],s=>e s
  | i,x::xs,s=>body i x s (fun s'=>rangeS body e (i+1) xs s')
theorem rangeS_of {α β S:Type} {xs:List α} {body:Int→α→S→(S→Option β)→Option β} {e:S→Option β} {L:Nat→S→Int→Option β} (hlen:xs.length≤4611686018427387904)
    (hL:∀ k s v,L (k+1) s v=bif decide (v<(xs.length:Int)) then ((at? xs v).bind fun x=>body v x s (fun s'=>L k s' (w64 (v+1)))) else e s) :
    ∀ (d k:Nat) (v:Int) (s:S),0≤v→v≤xs.length→(xs.length:Int) - v=d→d<k→L k s v=rangeS body e v (xs.drop v.toNat) s:=by
  intro d
  induction d with
  | zero =>
    intro k v s h0 h1 hd hk
    obtain ⟨k,rfl⟩:∃ m,k=m+1:=⟨k - 1,by omega⟩
    have hlt:decide (v<(xs.length:Int))=false:=by simp; omega
    have hdrop:xs.drop v.toNat=[]:=List.drop_eq_nil_of_le (by omega)
    rw [hL,hlt,hdrop]
    rfl
  | succ d ih =>
    intro k v s h0 h1 hd hk
    obtain ⟨k,rfl⟩:∃ m,k=m+1:=⟨k - 1,by omega⟩
    have hlt:decide (v<(xs.length:Int))=true:=by simp; omega
    have hn:v.toNat<xs.length:=by omega
    rw [hL,hlt]
    have hat:at? xs v=some xs[v.toNat]:=by simp [at?,h0,hn]
    have hw:w64 (v+1)=v+1:=w64_id (by omega) (by omega)
    have hdrop:xs.drop v.toNat=xs[v.toNat]::xs.drop (v+1).toNat:=by
      rw [List.drop_eq_getElem_cons hn]
      congr 2
      omega
    rw [hat,hdrop,hw]
    simp only [Option.bind_some,cond_true,rangeS]
    congr 1
    funext s'
    exact ih k (v+1) s' (by omega) (by omega) (by omega) (by omega)
theorem rangeS_all {α β S:Type} {xs:List α} {body:Int→α→S→(S→Option β)→Option β} {e:S→Option β} {L:Nat→S→Int→Option β} (hlen:xs.length≤4611686018427387904)
    (hL:∀ k s v,L (k+1) s v=bif decide (v<(xs.length:Int)) then ((at? xs v).bind fun x=>body v x s (fun s'=>L k s' (w64 (v+1)))) else e s) (s:S):L big s 0=rangeS body e 0 xs s:=by
  have:=rangeS_of hlen hL xs.length big 0 s (by omega) (by omega) (by omega) (by unfold big; omega)
  simpa using this

theorem bind_at {α β:Type} {xs:List α} {v:Int} {f g:α→Option β} (h:∀ x∈xs,f x=g x):(at? xs v).bind f=(at? xs v).bind g:=by
  cases hx:at? xs v with
  | none=>rfl
  | some x =>
    obtain ⟨h0,h1,h2⟩:=at?_some hx
    exact h x (List.mem_of_getElem? h2)
/-! words -/
theorem eqLoop {α:Type} {xs:List α} {P:α→α→Bool} {L:Nat→Int→Option Bool} (hlen:xs.length≤4611686018427387904)
    (hL:∀ k v,L (k+1) v=bif decide (v<(xs.length:Int)) then ((at? xs v).bind fun x=>(at? xs v).bind fun y=>bif !P x y then some false else L k (w64 (v+1))) else some true) (hP:∀ x∈xs,P x x=true):L big 0=some true:=by
  have h2:∀ (d k:Nat) (v:Int),0≤v→v≤xs.length→(xs.length:Int) - v=d→d<k→L k v=some true:=by
    intro d
    induction d with
    | zero =>
      intro k v h0 h1 hd hk
      obtain ⟨k,rfl⟩:∃ m,k=m+1:=⟨k - 1,by omega⟩
      rw [hL,decide_eq_false (by omega)]
      rfl
    | succ d ih =>
      intro k v h0 h1 hd hk
      obtain ⟨k,rfl⟩:∃ m,k=m+1:=⟨k - 1,by omega⟩
      have hn:v.toNat<xs.length:=by omega
      have hat:at? xs v=some xs[v.toNat]:=by simp [at?,h0,hn]
      rw [hL,decide_eq_true (by omega),hat,w64_id (by omega) (by omega)]
      simp only [Option.bind_some,cond_true,hP _ (List.getElem_mem hn),Bool.not_true,cond_false]
      exact ih k (v+1) (by omega) (by omega) (by omega) (by omega)
  exact h2 xs.length big 0 (by omega) (by omega) (by omega) (by unfold big; omega)
end Go.Proofs.YtgmfdaibmaakpaaDoor
