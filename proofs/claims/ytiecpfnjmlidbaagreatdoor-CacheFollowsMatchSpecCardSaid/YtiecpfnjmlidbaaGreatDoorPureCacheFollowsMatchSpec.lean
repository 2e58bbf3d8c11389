/- CacheFollowsMatchSpec over plain data: following events does on both sides the same. -/
import Derived.Test.YtiecpfnjmlidbaaGreatDoorPFlM
import Derived.Test.YtiecpfnjmlidbaaGreatDoorPureSCacheFollowsMatchSpec
set_option linter.unusedVariables false
set_option linter.unusedSimpArgs false
namespace Go.Proofs.YtiecpfnjmlidbaaGreatDoor
open Go Go.Proofs.YtiecpfnjmlidbaaGreatDoor.Kit
theorem db5 {c:Cache} (h:bQ8 c):Fit c:=by
  obtain ⟨-,-,⟨h3,h3'⟩,⟨h4,h4'⟩⟩:=h
  exact cQ1 h3 (fun x hx=>(h3' x hx).1) h4 (fun x hx=>⟨(h4' x hx).1,(h4' x hx).2.1.1,(h4' x hx).2.1.2⟩)
theorem cN8:db6:=by
  intro c es hc hes
  have hf:=db5 hc
  have hb:reachBytes≤4611686018427387904:=by decide
  have s3:reachBytes≤140737490452480:=by decide
  have hsd:∀ e∈es,as2 e.j9:=fun e he=>(cm3 (hes.2 e he).2.2.2.1.1 (hes.2 e he).2.2.2.1.2).1
  have hsb:∀ e∈es,e.j9.length*16≤140737490452480:=fun e he=>(cm3 (hes.2 e he).2.2.2.1.1 (hes.2 e he).2.2.2.1.2).2
  have hd:∀ e∈es,e.b7.size≤4611686018427387904:=fun e he=>Nat.le_trans (hes.2 e he).2.2.1 hb
  have hk:∀ e∈es,e.Key.size≤4611686018427387904:=fun e he=>Nat.le_trans (hes.2 e he).2.2.2.2.1 hb
  have hel:es.length*80≤140737490452480:=Nat.le_trans hes.1 s3
  have e1:aj6.f es=some es:=cZ0 hel hsb
  have e9:P0.f c (⟨c.Room,c.c4,c.U,c.Entries⟩:Cache)=some true:=bS3 hf.small
  have e10:ai5.f es es=some true:=cZ1 (by omega) hsd
  unfold bH1.f bH2.f T9.f bH3.f
  rw [cQ6 hf.fb hf.fe hf.fr,e1]
  rcases cU7 hf hsd hd hk with ⟨f,hf0,q1,ae2,aT0,aX6⟩ | ⟨c',as,p,h,m,k1,k2,k3,q1,ae2,aT0,aX6,q5⟩
  · have q1':ad4.f (⟨c.Room,c.c4,c.U,c.Entries⟩:Cache) es=_:=q1
    have hx:(f != 0)=true:=by simpa using hf0
    have aW8:P0.f (⟨zC.Room,zC.c4,zC.U,zC.Entries⟩:Cache) (⟨0,0,[],[]⟩:Cache)=some true:=bS3 (c:=zC) cZ2
    have am7:ag3.f [] []=some true:=ck5 (by simp) (fun a ha=>by cases ha)
    simp only [Option.bind_some,q1',ae2,aT0,aX6,hx,cond_true,aW8,am7,Bool.not_true,cond_false,bne_self_eq_false,beq_self_eq_true,e9,e10,ck9]
  · have q1':ad4.f (⟨c.Room,c.c4,c.U,c.Entries⟩:Cache) es=_:=q1
    have aW8:P0.f (⟨c'.Room,c'.c4,c'.U,c'.Entries⟩:Cache) (⟨c'.Room,c'.c4,c'.U,c'.Entries⟩:Cache)=some true:=bS3 (c:=c') k1
    have am7:ag3.f as as=some true:=ck5 (by omega) k3
    simp only [Option.bind_some,q1',ae2,aT0,aX6,q5,Y3,cond_true,aW8,am7,Bool.not_true,cond_false,bne_self_eq_false,beq_self_eq_true,e9,e10,ck9]
end Go.Proofs.YtiecpfnjmlidbaaGreatDoor
