/- Words joined by a sign and parted again; numbers as text and back; strings.Join of any words. -/
import Derived.Test.YtnfgkhmhdefagaaGreatDoorPWg7
import Derived.KernelRfl
set_option linter.unusedVariables false
set_option linter.unusedSimpArgs false
namespace Go.Proofs.YtnfgkhmhdefagaaGreatDoor
open Go Go.Proofs.YtnfgkhmhdefagaaGreatDoor.Kit
/-! parting and joining -/
def joinK (c:UInt8):List (List UInt8)→List UInt8
  | []=>[]
  | [x]=>x
  | x::y::l=>x++c::joinK c (y::l)
theorem joinK_cons (c:UInt8) (x:List UInt8) {l:List (List UInt8)} (h:l≠[]):joinK c (x::l)=x++c::joinK c l:=by
  cases l with
  | nil=>exact absurd rfl h
  | cons y l=>rfl
theorem split_spec (c:UInt8):∀ (n:Nat) (L:List UInt8),L.length≤n→∃ ws,Lib.splitK [c] 0 (Lib.count L [c]) L=ws∧ws≠[]∧(∀ w∈ws,c ∉ w)∧joinK c ws=L
  | 0,L,h=>by
    obtain rfl:L=[]:=List.eq_nil_of_length_eq_zero (by omega)
    exact ⟨[[]],splitK_last (by simp),by simp,by simp,rfl⟩
  | n+1,L,h=>by
    by_cases hc:c∈L
    · obtain ⟨a,r,rfl,ha⟩:=List.eq_append_cons_of_mem hc
      rw [List.length_append,List.length_cons] at h
      obtain ⟨ws,h1,h2,h3,h4⟩:=split_spec c n r (by omega)
      refine ⟨a::ws,by rw [splitK_next ha,h1],by simp,fun w hw=>?_,by rw [joinK_cons c a h2,h4]⟩
      rcases List.mem_cons.1 hw with rfl | hw
      · exact ha
      · exact h3 w hw
    · exact ⟨[L],splitK_last hc,by simp,by simpa using hc,rfl⟩
def joinB (ws:List ByteArray):List UInt8:=joinK 32 (ws.map fun x=>x.data.toList)
def joinS (ws:List ByteArray):ByteArray:=⟨(joinB ws).toArray⟩
theorem joinB_cons (x:ByteArray) {ws:List ByteArray} (h:ws≠[]):joinB (x::ws)=x.data.toList++32::joinB ws:=joinK_cons 32 _ (by simpa using h)
theorem words_map (s:ByteArray):(wordsOf s).map (fun x=>x.data.toList)=Lib.splitK [32] 0 (Lib.count s.data.toList [32]) s.data.toList:=by
  unfold wordsOf
  rw [Lib.splitB_data]
theorem join_words (s:ByteArray):joinB (wordsOf s)=s.data.toList∧wordsOf s≠[]∧∀ w∈wordsOf s,(32:UInt8) ∉ w.data.toList:=by
  obtain ⟨ws,h1,h2,h3,h4⟩:=split_spec 32 _ s.data.toList (Nat.le_refl _)
  rw [← words_map] at h1
  refine ⟨by unfold joinB; rw [h1,h4],fun e=>h2 (by rw [← h1,e]; rfl),fun w hw=>h3 _ (by rw [← h1]; exact List.mem_map_of_mem hw)⟩
/-! numbers -/
theorem digit_is {b:UInt8} (h:digitB b=true):∃ d,d<10∧Lib.digitVal b=some d∧UInt8.ofNat (48+d)=b:=by
  have hu:=u8_all (p:=fun b=>!digitB b||(match Lib.digitVal b with | some d=>Nat.blt d 10&&UInt8.ofNat (48+d) == b | none=>false)) (by kernel_rfl) b
  rw [h] at hu
  cases hd:Lib.digitVal b with
  | none=>rw [hd] at hu; simp at hu
  | some d =>
    rw [hd] at hu
    simp at hu
    exact ⟨d,hu.1,rfl,by rw [UInt8.ofNat_add]; exact hu.2⟩
theorem dig_back:∀ (n:Nat) (L:List UInt8),L.length=n+1→L.all digitB=true→(∀ l,L≠48::l)→∃ m,Lib.decFrom 0 L=some m∧Lib.decDigits m=L∧1≤m
  | 0,L,hl,ha,hh=>by
    match L,hl with
    | [b],_ =>
      simp only [List.all_cons,List.all_nil,Bool.and_true] at ha
      obtain ⟨d,h1,h2,h3⟩:=digit_is ha
      refine ⟨d,by rw [Lib.decFrom,h2]; simp [Lib.decFrom],by rw [dd_small h1,h3],?_⟩
      rcases Nat.eq_zero_or_pos d with rfl | h
      · exact absurd (by rw [← h3]; rfl) (hh [])
      · exact h
  | n+1,L,hl,ha,hh=>by
    have hne:L≠[]:=by rintro rfl; simp at hl
    obtain ⟨K,b,rfl⟩:∃ K b,L=K++[b]:=⟨L.dropLast,L.getLast hne,(List.dropLast_concat_getLast hne).symm⟩
    rw [List.all_append,Bool.and_eq_true] at ha
    simp only [List.length_append,List.length_singleton] at hl
    obtain ⟨m,h1,h2,h3⟩:=dig_back n K (by omega) ha.1 (fun l e=>hh (l++[b]) (by rw [e]; rfl))
    have hb:=ha.2
    simp only [List.all_cons,List.all_nil,Bool.and_true] at hb
    obtain ⟨d,k1,k2,k3⟩:=digit_is hb
    refine ⟨m*10+d,dec_snoc K 0 m d b h1 k2,?_,by omega⟩
    rw [dd_big (by omega),show (m*10+d) / 10=m by omega,show (m*10+d) % 10=d by omega,h2,k3]
theorem num_back {s:ByteArray} (h:numB s=true):∃ n:Int,numV s=(n,true)∧numT n=s∧0≤n∧n≤9999999999:=by
  have hv:numV s=((Lib.atoi s.data.toList).getD 0,true):=by unfold numV; rw [h]; rfl
  unfold numB at h
  simp only [Bool.and_eq_true,decide_eq_true_eq,Bool.not_eq_true'] at h
  obtain ⟨h1,h2,h3,h4⟩:=h
  obtain ⟨b,l,hs,hb,hz⟩:=head_cases h1
  have key:∃ m,Lib.decFrom 0 s.data.toList=some m∧Lib.decDigits m=s.data.toList:=by
    by_cases h0:s.data.toList=[48]
    · rw [h0]
      exact ⟨0,rfl,by rw [dd_small (by omega)]; rfl⟩
    · obtain ⟨m,k1,k2,_⟩:=dig_back l.length s.data.toList (by rw [hs]; rfl) h3 (fun l' e=>by
        unfold headB at h4
        rw [e] at h4
        cases l' with
        | nil=>exact h0 e
        | cons c l'=>simp at h4)
      exact ⟨m,k1,k2⟩
  obtain ⟨m,k1,k2⟩:=key
  have hat:Lib.atoi s.data.toList=some (m:Int):=by
    obtain ⟨n,hn⟩:=atoi_some h1 h3
    have hbd:digitB b=true:=by
      rw [hs,List.all_cons,Bool.and_eq_true] at h3
      exact h3.1
    have hne:=u8_all (p:=fun b=>!digitB b||(!(b == 45)&&!(b == 43))) (by kernel_rfl) b
    rw [hbd] at hne
    simp only [Bool.not_true,Bool.false_or,Bool.and_eq_true,Bool.not_eq_true'] at hne
    rw [hs] at k1 ⊢
    rw [Lib.atoi,if_neg (by rw [hne.1]; simp),if_neg (by rw [hne.2]; simp)]
    unfold Lib.decNat
    rw [if_neg (by simp),k1]
    rfl
  have hm:m≤9999999999:=by
    rcases Nat.lt_or_ge m 10000000000 with h | h
    · omega
    · have:=dd_len 10 (m / 1) 
      have hl:(Lib.decDigits m).length=s.size:=by rw [k2,ba_len]
      have key:∀ (k u:Nat),10 ^ k≤u→k+1≤(Lib.decDigits u).length:=by
        intro k
        induction k with
        | zero =>
          intro u _
          by_cases hu:u<10
          · rw [dd_small hu]; simp
          · rw [dd_big hu]; simp
        | succ k ih =>
          intro u hu
          have:10 ^ (k+1)=10*10 ^ k:=by rw [Nat.pow_succ,Nat.mul_comm]
          have hp:0<10 ^ k:=Nat.pow_pos (by omega)
          rw [dd_big (by omega),List.length_append,List.length_singleton]
          have:=ih (u / 10) (by omega)
          omega
      have:=key 10 m (by simpa using h)
      omega
  refine ⟨m,by rw [hv,hat]; rfl,ba_ext ?_,by omega,by omega⟩
  rw [numT_data (by omega)]
  simpa using k2
/-! strings.Join -/
def sumZ:List ByteArray→Nat
  | []=>0
  | x::l=>x.size+sumZ l
theorem sumZ_le {B:Nat}:∀ {l:List ByteArray},(∀ x∈l,x.size≤B)→sumZ l≤l.length*B
  | [],_=>Nat.zero_le _
  | x::l,h=>by
    have:=sumZ_le (l:=l) (fun y hy=>h y (by simp [hy]))
    have hx:=h x (by simp)
    rw [sumZ,List.length_cons,Nat.add_mul,Nat.one_mul]
    omega
theorem join_l5 {E:Int→Option ByteArray}:∀ (l:List ByteArray) (i:Int) (s:Int),0≤s→s+(sumZ l:Int)≤1000000000000→rangeS (fun _ (x:ByteArray) (s:Int) f=>bif decide ((w64 (9223372036854775807 - s))<(x.size:Int)) then none else f (w64 (s+(x.size:Int)))) E i l s=E (s+sumZ l)
  | [],i,s,_,_=>by simp [rangeS,sumZ]
  | x::l,i,s,h0,h1=>by
    rw [sumZ] at h1 ⊢
    push_cast at h1 ⊢
    rw [rangeS,w64_id (n:=9223372036854775807 - s) (by omega) (by omega),decide_eq_false (by omega),cond_false,w64_id (n:=s+(x.size:Int)) (by omega) (by omega)]
    refine (join_l5 l (i+1) _ (by omega) (by omega)).trans ?_
    congr 1
    omega
theorem join_l4:∀ (l:List ByteArray) (i:Int) (s:ByteArray),s.size+sumZ l+l.length≤1000000000000→rangeS (fun _ (x:ByteArray) (s:ByteArray) f=>guard? (decide (s.size+({ data:=#[32] }:ByteArray).size≤140737488355328)) (guard? (decide ((s++({ data:=#[32] }:ByteArray)).size+x.size≤140737488355328)) (f ((s++({ data:=#[32] }:ByteArray))++x)))) strings_Join.e3 i l s=some (⟨(s.data.toList++l.flatMap (fun x=>32::x.data.toList)).toArray⟩:ByteArray)
  | [],i,s,_=>by
    show some s=_
    congr 1
    refine ba_ext ?_
    simp
  | x::l,i,s,h=>by
    have z1:({ data:=#[32] }:ByteArray).size=1:=rfl
    rw [sumZ,List.length_cons] at h
    rw [rangeS,guard?_true (decide_eq_true (by rw [z1]; omega)),guard?_true (decide_eq_true (by rw [ByteArray.size_append,z1]; omega))]
    refine (join_l4 l (i+1) _ (by rw [ByteArray.size_append,ByteArray.size_append,z1]; omega)).trans ?_
    congr 1
    refine ba_ext ?_
    simp [ba_app]
theorem joinB_flat:∀ (x:ByteArray) (l:List ByteArray),joinB (x::l)=x.data.toList++l.flatMap (fun x=>32::x.data.toList)
  | x,[]=>by simp [joinB,joinK]
  | x,y::l=>by
    rw [joinB_cons x (by simp),joinB_flat y l]
    simp
theorem join_gen {x y:ByteArray} {l:List ByteArray} (hz:x.size+y.size+sumZ l+l.length≤100000000):strings_Join.f (x::y::l) ({ data:=#[32] }:ByteArray)=some (joinS (x::y::l)):=by
  have z1:({ data:=#[32] }:ByteArray).size=1:=rfl
  have z0:(⟨#[]⟩:ByteArray).size=0:=rfl
  have hl:((x::y::l).length:Int)=(l.length:Int)+2:=by simp; omega
  have hn:(l.length:Int)+2≤100000002:=by omega
  unfold strings_Join.f
  rw [hl,z1]
  have c1:(((l.length:Int)+2) == 0)=false:=by simp; omega
  have c2:(((l.length:Int)+2) == 1)=false:=by simp; omega
  have c3:decide ((0:Int)<((1:Nat):Int))=true:=rfl
  have e1:w64 ((l.length:Int)+2 - 1)=(l.length:Int)+1:=by rw [w64_id (by omega) (by omega)]; omega
  have c4:(((l.length:Int)+1) != 0)=true:=by simp; omega
  have hq:(9223372036854775807:Int).tdiv ((l.length:Int)+1)=9223372036854775807 / ((l.length:Int)+1):=Int.tdiv_eq_ediv_of_nonneg (by omega)
  have hq2:(2:Int)≤9223372036854775807 / ((l.length:Int)+1):=by
    rw [Int.le_ediv_iff_mul_le (by omega)]
    omega
  have hq3:9223372036854775807 / ((l.length:Int)+1)≤9223372036854775807:=Int.ediv_le_self _ (by omega)
  rw [c1,c2,c3,e1,c4,hq,w64_id (n:=9223372036854775807 / ((l.length:Int)+1)) (by omega) hq3,decide_eq_false (show ¬ 9223372036854775807 / ((l.length:Int)+1)≤((1:Nat):Int) by omega)]
  simp only [cond_false,cond_true,guard?_true rfl]
  unfold strings_Join.j7 strings_Join.j1
  rw [hl,z1,e1,w64_id (n:=((1:Nat):Int)*((l.length:Int)+1)) (by omega) (by omega),w64_id (n:=0+((1:Nat):Int)*((l.length:Int)+1)) (by omega) (by omega)]
  have h5:=rangeS_all (xs:=x::y::l) (S:=Int) (L:=fun k s v=>strings_Join.l5 strings_Join.e2 k (x::y::l) ({ data:=#[32] }:ByteArray) s v)
    (body:=fun _ x (s:Int) f=>bif decide ((w64 (9223372036854775807 - s))<(x.size:Int)) then none else f (w64 (s+(x.size:Int)))) (e:=fun s=>strings_Join.e2 (x::y::l) ({ data:=#[32] }:ByteArray) s) (by simp; omega) (fun k s v=>by
      simp only [strings_Join.l5,strings_Join.j6]) (0+((1:Nat):Int)*((l.length:Int)+1))
  refine h5.trans ?_
  rw [join_l5 (x::y::l) 0 _ (by omega) (by rw [sumZ,sumZ]; push_cast; omega)]
  unfold strings_Join.e2
  rw [guard?_true (by rw [decide_eq_true (by omega),decide_eq_true (by rw [sumZ,sumZ]; push_cast; omega)]; rfl),show at? (x::y::l) 0=some x from rfl]
  simp only [Option.bind_some]
  rw [z0,guard?_true (decide_eq_true (by omega)),guard?_true (by rw [decide_eq_true (by omega),decide_eq_true (by rw [hl]; omega)]; rfl)]
  have h4:=rangeS_all (xs:=y::l) (S:=ByteArray) (L:=fun k s v=>strings_Join.l4 strings_Join.e3 k (x::y::l) ({ data:=#[32] }:ByteArray) s v)
    (body:=fun _ x (s:ByteArray) f=>guard? (decide (s.size+({ data:=#[32] }:ByteArray).size≤140737488355328)) (guard? (decide ((s++({ data:=#[32] }:ByteArray)).size+x.size≤140737488355328)) (f ((s++({ data:=#[32] }:ByteArray))++x)))) (e:=strings_Join.e3) (by simp; omega) (fun k s v=>by
      simp only [strings_Join.l4,List.drop_succ_cons,List.drop_zero,List.length_cons,Nat.add_sub_cancel]) ((⟨#[]⟩:ByteArray)++x)
  refine h4.trans ?_
  rw [join_l4 (y::l) 0 _ (by rw [empty_app,sumZ,List.length_cons]; omega),empty_app]
  unfold joinS
  rw [joinB_flat]
theorem joinB_size:∀ (ws:List ByteArray),(joinB ws).length+1≤sumZ ws+ws.length+1
  | []=>by simp [joinB,joinK,sumZ]
  | [x]=>by simp [joinB,joinK,sumZ]
  | x::y::l=>by
    have:=joinB_size (y::l)
    rw [joinB_cons x (by simp),List.length_append,List.length_cons,sumZ,ba_len]
    rw [List.length_cons (a:=x)]
    omega
end Go.Proofs.YtnfgkhmhdefagaaGreatDoor
