/- CacheDoesMatchSpec over plain data: an event does on both sides the same. -/
import Derived.Test.YtjdnnkdhajhdkaaGreatDoorPRf
import Derived.Test.YtjdnnkdhajhdkaaGreatDoorPureSCacheDoesMatchSpec
set_option linter.unusedVariables false
set_option linter.unusedSimpArgs false
namespace Go.Proofs.YtjdnnkdhajhdkaaGreatDoor
open Go Go.Proofs.YtjdnnkdhajhdkaaGreatDoor.Kit
theorem fit_of {c:Cache} (h:fitCache c):Fit c:=by
  obtain ⟨-,-,⟨h3,h3'⟩,⟨h4,h4'⟩⟩:=h
  exact fit_raw h3 (fun x hx=>(h3' x hx).1) h4 (fun x hx=>⟨(h4' x hx).1,(h4' x hx).2.1.1,(h4' x hx).2.1.2⟩)
theorem CacheDoesMatchSpec_pure:CacheDoesMatchSpec_Pure:=by
  intro c e hc he
  have hf:=fit_of hc
  have hb:reachBytes≤4611686018427387904:=by decide
  obtain ⟨hsd,hsb⟩:=strs_raw he.2.2.2.1.1 he.2.2.2.1.2
  have hd:e.Digest.size≤4611686018427387904:=Nat.le_trans he.2.2.1 hb
  have hk:e.Key.size≤4611686018427387904:=Nat.le_trans he.2.2.2.2.1 hb
  unfold smithyardlaw7_CacheDoesMatchSpec.f
  have e1:smithyardref7_CopyEvents.f [e]=some [e]:=copyEv_id (by simp) (fun x hx=>by
    rw [List.mem_singleton] at hx
    rw [hx]
    exact hsb)
  have e2:at? [e] 0=some e:=rfl
  obtain ⟨r,e3,e4,e5⟩:=doS_small c (e:=e)
  have e6:smithyardref7_Do.f (⟨c.Room,c.Lease,c.Blobs,c.Entries⟩:Cache) e=some r:=(DoR (c:=c) hf hsd hd hk).trans e3
  have e7:smithyardref7_Same.f (⟨r.1.Room,r.1.Lease,r.1.Blobs,r.1.Entries⟩:Cache) (⟨r.1.Room,r.1.Lease,r.1.Blobs,r.1.Entries⟩:Cache)=some true:=same_self (c:=r.1) e4
  have e8:smithyardref7_SameAnswers.f ([(⟨r.2.1.Done,r.2.1.Missing,r.2.1.Gone⟩:CacheAnswer)]:List CacheAnswer) ([(⟨r.2.1.Done,r.2.1.Missing,r.2.1.Gone⟩:CacheAnswer)]:List CacheAnswer)=some true:=sameAns_self (by simp) (fun a ha=>by
    rw [List.mem_singleton] at ha
    rw [ha]
    exact e5)
  have e9:smithyardref7_Same.f c (⟨c.Room,c.Lease,c.Blobs,c.Entries⟩:Cache)=some true:=same_self hf.small
  have e10:smithyardref7_SameEvents.f ([e]:List CacheEvent) ([e]:List CacheEvent)=some true:=sameEv_self (by simp) (fun a ha=>by
    rw [List.mem_singleton] at ha
    rw [ha]
    exact hsd)
  rw [copy_id hf.fb hf.fe hf.fr,e1]
  simp only [Option.bind_some,e2,doS_prog hf hsd,e3,e6,e7,e8,e9,e10,cond_true,beq_self_eq_true,awake7]
end Go.Proofs.YtjdnnkdhajhdkaaGreatDoor
