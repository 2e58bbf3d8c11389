/- Words joined and parted; numbers as text. -/
import Derived.Test.YtnfgkhmhdefagaaGreatDoorPNum7
import Derived.Lib.ItoaNum
import Derived.Lib.ItoaLen
set_option linter.unusedVariables false
set_option linter.unusedSimpArgs false
namespace Go.Proofs.YtnfgkhmhdefagaaGreatDoor
open Go Go.Proofs.YtnfgkhmhdefagaaGreatDoor.Kit
theorem ba_ext {a b:ByteArray} (h:a.data.toList=b.data.toList):a=b:=by
  cases a; cases b; simp at h; exact congrArg _ h
theorem ba_app (a b:ByteArray):(a++b).data.toList=a.data.toList++b.data.toList:=by rw [ByteArray.data_append,Array.toList_append]
theorem ba_len (a:ByteArray):a.data.toList.length=a.size:=by simp
/-! split at one byte -/
theorem idx_at (c:UInt8):∀ (a r:List UInt8),c ∉ a→Lib.index (a++c::r) [c]=(a.length:Int)
  | [],r,_=>by rw [List.nil_append,Lib.index]; simp [List.isPrefixOf]
  | b::a,r,h=>by
    have hb:c≠b:=fun e=>h (by simp [e])
    have ih:=idx_at c a r (fun e=>h (by simp [e]))
    rw [List.cons_append,Lib.index,if_neg (by simp [List.isPrefixOf,hb]),ih,if_neg (by simp)]
    simp
theorem splitK_last {c:UInt8} {a:List UInt8} (h:c ∉ a):Lib.splitK [c] 0 (Lib.count a [c]) a=[a]:=by
  rw [Lib.count_one,List.count_eq_zero.2 h]
  rfl
theorem splitK_next {c:UInt8} {a r:List UInt8} (h:c ∉ a):Lib.splitK [c] 0 (Lib.count (a++c::r) [c]) (a++c::r)=a::Lib.splitK [c] 0 (Lib.count r [c]) r:=by
  have e:Lib.count (a++c::r) [c]=Lib.count r [c]+1:=by
    rw [Lib.count_one,Lib.count_one,List.count_append,List.count_cons_self,List.count_eq_zero.2 h,Nat.zero_add]
  rw [e,Lib.splitK,idx_at c a r h,if_neg (by simp)]
  simp
/-! numbers as text -/
def numT (n:Int):ByteArray:=⟨(Lib.itoa n).toArray⟩
theorem itoa_eq {n:Int} (h0 : -9223372036854775808≤n) (h1:n≤9223372036854775807):strconv_Itoa.f n=some (numT n):=by
  unfold strconv_Itoa.f
  rw [guard?_true (by rw [decide_eq_true h0,decide_eq_true h1]; rfl)]
  rfl
theorem dd_small {u:Nat} (h:u<10):Lib.decDigits u=[UInt8.ofNat (48+u)]:=by rw [Lib.decDigits,dif_pos h]
theorem dd_big {u:Nat} (h:¬ u<10):Lib.decDigits u=Lib.decDigits (u / 10)++[UInt8.ofNat (48+u % 10)]:=by rw [Lib.decDigits,dif_neg h]
theorem dig_fin:∀ d:Fin 10,digitB (UInt8.ofNat (48+d.val))=true∧Lib.digitVal (UInt8.ofNat (48+d.val))=some d.val∧(d.val≠0→UInt8.ofNat (48+d.val)≠48):=by decide +kernel
theorem dig_at {d:Nat} (h:d<10):digitB (UInt8.ofNat (48+d))=true∧Lib.digitVal (UInt8.ofNat (48+d))=some d∧(d≠0→UInt8.ofNat (48+d)≠48):=dig_fin ⟨d,h⟩
theorem dd_all (u:Nat):(Lib.decDigits u).all digitB=true:=by
  induction u using Nat.strongRecOn with
  | ind u ih =>
    by_cases h:u<10
    · rw [dd_small h,List.all_cons,(dig_at h).1]
      rfl
    · rw [dd_big h,List.all_append,ih (u / 10) (by omega),List.all_cons,(dig_at (show u % 10<10 by omega)).1]
      rfl
theorem dec_snoc:∀ (l:List UInt8) (a n d:Nat) (b:UInt8),Lib.decFrom a l=some n→Lib.digitVal b=some d→Lib.decFrom a (l++[b])=some (n*10+d)
  | [],a,n,d,b,h,hb=>by
    obtain rfl:=Option.some.inj h
    rw [List.nil_append,Lib.decFrom,hb]
    rfl
  | x::l,a,n,d,b,h,hb=>by
    rw [List.cons_append,Lib.decFrom]
    rw [Lib.decFrom] at h
    cases hx:Lib.digitVal x with
    | none=>rw [hx] at h; cases h
    | some e =>
      rw [hx] at h
      exact dec_snoc l _ n d b h hb
theorem dd_val (u:Nat):Lib.decFrom 0 (Lib.decDigits u)=some u:=by
  induction u using Nat.strongRecOn with
  | ind u ih =>
    by_cases h:u<10
    · rw [dd_small h,Lib.decFrom,(dig_at h).2.1]
      simp [Lib.decFrom]
    · rw [dd_big h,dec_snoc _ _ _ _ _ (ih (u / 10) (by omega)) (dig_at (show u % 10<10 by omega)).2.1]
      congr 1
      omega
theorem dd_len:∀ (k u:Nat),u<10 ^ (k+1)→1≤(Lib.decDigits u).length∧(Lib.decDigits u).length≤k+1
  | 0,u,h=>by rw [dd_small (by simpa using h)]; simp
  | k+1,u,h=>by
    by_cases h2:u<10
    · rw [dd_small h2]; simp
    · have:=dd_len k (u / 10) (by rw [Nat.pow_succ] at h; omega)
      rw [dd_big h2,List.length_append,List.length_singleton]
      omega
theorem dd_head (u:Nat) (h1:1≤u):∃ b l,Lib.decDigits u=b::l∧b≠48:=by
  induction u using Nat.strongRecOn with
  | ind u ih =>
    by_cases h:u<10
    · exact ⟨_,[],dd_small h,(dig_at h).2.2 (by omega)⟩
    · obtain ⟨b,l,e,hb⟩:=ih (u / 10) (by omega) (by omega)
      exact ⟨b,l++[UInt8.ofNat (48+u % 10)],by rw [dd_big h,e]; rfl,hb⟩
theorem numT_data {n:Int} (h:0≤n):(numT n).data.toList=Lib.decDigits n.toNat:=by
  unfold numT Lib.itoa
  rw [if_neg (by omega)]
theorem numT_size {n:Int} (h0:0≤n) (h1:n≤9999999999):1≤(numT n).size∧(numT n).size≤10:=by
  have:=dd_len 9 n.toNat (by simp; omega)
  rw [← numT_data h0,ba_len] at this
  exact this
theorem numV_numT {n:Int} (h0:0≤n) (h1:n≤9999999999):numV (numT n)=(n,true):=by
  obtain ⟨z1,z2⟩:=numT_size h0 h1
  have hd:=numT_data h0
  have ha:=dd_all n.toNat
  have hh:headB (numT n)=false:=by
    unfold headB
    rw [hd]
    by_cases hz:n.toNat=0
    · rw [hz,dd_small (by decide)]
      rfl
    · obtain ⟨b,l,e,hb⟩:=dd_head n.toNat (by omega)
      rw [e]
      have:(b.toNat == 48)=false:=by
        rw [beq_eq_false_iff_ne]
        exact fun hh=>hb (UInt8.toNat_inj.1 hh)
      simp only [this,Bool.false_and]
  have hn:numB (numT n)=true:=by
    unfold numB
    rw [decide_eq_true z1,decide_eq_true z2,hd,ha,hh]
    rfl
  unfold numV
  rw [hn,cond_true,hd]
  have hv:=dd_val n.toNat
  generalize Lib.decDigits n.toNat=l at ha hv hd
  have hl:l≠[]:=fun e=>by
    rw [e] at hd
    have:=ba_len (numT n)
    rw [hd] at this
    simp at this
    omega
  cases l with
  | nil=>exact absurd rfl hl
  | cons b l =>
    have hb:digitB b=true:=by
      simp only [List.all_cons,Bool.and_eq_true] at ha
      exact ha.1
    have hne:=u8_all (p:=fun b=>!digitB b||(!(b == 45)&&!(b == 43))) (by kernel_rfl) b
    rw [hb] at hne
    simp only [Bool.not_true,Bool.false_or,Bool.and_eq_true,Bool.not_eq_true'] at hne
    rw [Lib.atoi,if_neg (by rw [hne.1]; simp),if_neg (by rw [hne.2]; simp)]
    unfold Lib.decNat
    rw [if_neg (by simp),hv]
    simp
    omega
/-! a line -/
/-! runs as they should be -/
theorem byte_at (c:UInt8):∀ (a r:List UInt8),c ∉ a→Lib.indexByte (a++c::r) c=(a.length:Int)
  | [],r,_=>by rw [List.nil_append,Lib.indexByte]; simp
  | b::a,r,h=>by
    have hb:b≠c:=fun e=>h (by simp [e])
    have ih:=byte_at c a r (fun e=>h (by simp [e]))
    rw [List.cons_append,Lib.indexByte,if_neg (by simpa using hb),ih,if_neg (by simp)]
    simp
theorem cut_at {s a r:ByteArray} (hs:s.data.toList=a.data.toList++10::r.data.toList) (ha:(10:UInt8) ∉ a.data.toList) (hz:s.size≤1000000000):strings_Cut.f s ({ data:=#[10] }:ByteArray)=some (a,r,true):=by
  have z1:({ data:=#[10] }:ByteArray).size=1:=rfl
  have hsz:s.size=a.size+1+r.size:=by rw [← ba_len,hs]; simp; omega
  have hi:stringslite_Index.f s ({ data:=#[10] }:ByteArray)=some (a.size:Int):=by
    unfold stringslite_Index.f
    rw [guard?_true (show decide (({ data:=#[10] }:ByteArray).data.toList.length=1)=true from rfl),hs]
    show some (Lib.indexByte (a.data.toList++10::r.data.toList) 10)=_
    rw [byte_at 10 _ _ ha,ba_len]
  unfold strings_Cut.f stringslite_Cut.f
  rw [hi]
  simp only [Option.bind_some]
  have q1:decide ((0:Int)≤(a.size:Int))=true:=decide_eq_true (by omega)
  have q2:decide ((a.size:Int)≤(s.size:Int))=true:=decide_eq_true (by omega)
  have q3:decide ((0:Int)≤(a.size:Int)+((1:Nat):Int))=true:=decide_eq_true (by omega)
  have q4:decide ((a.size:Int)+((1:Nat):Int)≤(s.size:Int))=true:=decide_eq_true (by omega)
  rw [z1,w64_id (n:=(a.size:Int)+((1:Nat):Int)) (by omega) (by omega),q1,q2,q3,q4]
  simp only [cond_true,Bool.and_self,guard?,Option.bind_some,Int.toNat_natCast]
  have e1:s.extract 0 a.size=a:=ba_ext (by rw [Lib.extract_from_zero,hs,← ba_len a,List.take_left' rfl])
  have e2:s.extract ((a.size:Int)+((1:Nat):Int)).toNat s.size=r:=ba_ext (by
    rw [show ((a.size:Int)+((1:Nat):Int)).toNat=a.size+1 by omega,Lib.extract_to_end,hs,← ba_len a]
    rw [show a.data.toList.length+1=(a.data.toList++[10]).length by simp,show a.data.toList++10::r.data.toList=(a.data.toList++[10])++r.data.toList by simp,List.drop_left' rfl])
  rw [e1,e2]
theorem empty_app (s:ByteArray):(⟨#[]⟩:ByteArray)++s=s:=by
  refine ba_ext ?_
  rw [ba_app]
  rfl
end Go.Proofs.YtnfgkhmhdefagaaGreatDoor
