/- Caches: what is swept, in plain words. -/
import Derived.Test.YtkjilepjblffeaaDoorPC7E
set_option linter.unusedVariables false
set_option linter.unusedSimpArgs false
namespace Go.Proofs.YtkjilepjblffeaaDoor
open Go Go.Proofs.YtkjilepjblffeaaDoor.Kit
def rootsM (roots:List ByteArray):List (ByteArray × Bool):=putAll [] roots
def wantM (c:Cache) (roots:List ByteArray):List (ByteArray × Bool):=c.Entries.foldl (wantStep c (rootsM roots)) (rootsM roots)
def keepB (c:Cache) (roots:List ByteArray) (t:Int) (b:Blob):Bool:=heldB b t||mgetD (wantM c roots) b.Digest false
def goneS (c:Cache) (roots:List ByteArray) (t:Int):List ByteArray:=(c.Blobs.filter (fun b=>!keepB c roots t b)).map (fun b=>b.Digest)
def sweptC (c:Cache) (roots:List ByteArray) (t:Int):Cache:=⟨c.Room,c.Lease,c.Blobs.filter (keepB c roots t),c.Entries.filter (fun x=>memB roots x.Key)⟩
def zeroC:Cache:=⟨0,0,[],[]⟩
def checkAtS (c:Cache) (t:Int):Option Int:=(cacheS c).bind fun f=>bif f != 0 then some f else bif !inR 0 1000000000 t then some 1 else some 0
theorem checkAt_prog {c:Cache} (h:smallCache c) (t:Int):cache_checkAt.f c t=checkAtS c t:=by
  unfold cache_checkAt.f checkAtS
  rw [check_prog h]
  simp only [cache_isMoment.f,within7,Option.bind_some]
theorem rootsM_get (roots:List ByteArray) (d:ByteArray):mgetD (rootsM roots) d false=memB roots d:=by
  unfold rootsM
  rw [putAll_mem]
  simp [mgetD,mget]
theorem want_fold (c:Cache) (isR:List (ByteArray × Bool)) (d:ByteArray):∀ (l:List Entry) (w:List (ByteArray × Bool)),mgetD (l.foldl (wantStep c isR) w) d false=(mgetD w d false||l.any (fun x=>(mgetD isR x.Key false&&(missingS c x.Refs).isEmpty)&&memB x.Refs d))
  | [],w=>by simp
  | x::l,w=>by
    rw [List.foldl_cons,want_fold c isR d l,List.any_cons]
    unfold wantStep
    cases mgetD isR x.Key false&&(missingS c x.Refs).isEmpty
    · simp
    · simp only [cond_true,Bool.true_and,putAll_mem]
      cases memB x.Refs d <;> cases mgetD w d false <;> simp
theorem wantM_get (c:Cache) (roots:List ByteArray) (d:ByteArray):mgetD (wantM c roots) d false=(memB roots d||c.Entries.any (fun x=>(memB roots x.Key&&(missingS c x.Refs).isEmpty)&&memB x.Refs d)):=by
  unfold wantM
  rw [want_fold,rootsM_get]
  simp only [rootsM_get]
theorem memB_iff {l:List ByteArray} {d:ByteArray}:memB l d=true↔d∈l:=by simp [memB]
theorem drop_gone {c:Cache} (hs:c.Blobs.Pairwise (fun a b=>sLt a.Digest b.Digest=true)) (p:Blob→Bool):c.Blobs.filter (fun b=>!memB ((c.Blobs.filter (fun b=>!p b)).map (fun b=>b.Digest)) b.Digest)=c.Blobs.filter p:=by
  refine List.filter_congr (fun b hb=>?_)
  cases hp:p b
  · have:memB ((c.Blobs.filter (fun b=>!p b)).map (fun b=>b.Digest)) b.Digest=true:=memB_iff.2 (List.mem_map.2 ⟨b,List.mem_filter.2 ⟨hb,by simp [hp]⟩,rfl⟩)
    rw [this]
    rfl
  · cases hm:memB ((c.Blobs.filter (fun b=>!p b)).map (fun b=>b.Digest)) b.Digest
    · rfl
    · obtain ⟨b',hb',he⟩:=List.mem_map.1 (memB_iff.1 hm)
      obtain ⟨h1,h2⟩:=List.mem_filter.1 hb'
      have:=key_inj (key:=fun x:Blob=>x.Digest) hs b' h1 b hb he
      subst this
      rw [hp] at h2
      cases h2
def sweptS (c:Cache) (roots:List ByteArray) (t:Int):Option (Cache × List ByteArray × Int) :=
  (checkAtS c t).bind fun f=>bif f != 0 then some (zeroC,[],f) else (digestsS roots 3000).bind fun g=>bif g != 0 then some (zeroC,[],g) else some (sweptC c roots t,goneS c roots t,0)
theorem swept_prog {c:Cache} {roots:List ByteArray} {t:Int} (hf:Fit c) (hr:smallStrs roots):cache_Swept.f c roots t=sweptS c roots t:=by
  have hrl:roots.length≤4611686018427387904:=by have:=hr.1; omega
  unfold cache_Swept.f sweptS
  rw [checkAt_prog hf.small,digests_prog hr]
  cases hck:checkAtS c t with
  | none=>rfl
  | some f =>
    simp only [Option.bind_some]
    cases h0:f != 0
    · have hf0:f=0:=by simpa using h0
      subst hf0
      have ok:OkCache c:=by
        unfold checkAtS at hck
        obtain ⟨q,hq,hck⟩:=Option.bind_eq_some_iff.1 hck
        cases hq0:q != 0
        · have:q=0:=by simpa using hq0
          subst this
          exact cacheS_ok hq
        · rw [hq0] at hck
          simp at hck
          subst hck
          simp at hq0
      simp only [cond_false]
      cases digestsS roots 3000 with
      | none=>rfl
      | some g =>
        simp only [Option.bind_some]
        cases h1:g != 0
        · simp only [cond_false,own_id hf.fb hf.fe hf.fr,Option.bind_some]
          rw [roots_loop hrl]
          unfold cache_Swept.e1
          have hl:=ents_loop (t:=t) (isR:=putAll [] roots) (w:=putAll [] roots) hf.small ok.bs hf.fr
          rw [hl]
          unfold cache_Swept.e2
          have hbl:c.Blobs.length≤4611686018427387904:=by have:=ok.bl; omega
          have hel:c.Entries.length≤4611686018427387904:=by have:=ok.el; omega
          rw [slices_Clone_Blob_id hf.fb]
          simp only [Option.bind_some,del1_prog _ _ _ hbl]
          have hg:(c.Blobs.filter (fun b=>!(heldB b t||mgetD (c.Entries.foldl (wantStep c (putAll [] roots)) (putAll [] roots)) b.Digest false))).length≤3000:=Nat.le_trans (List.length_filter_le _ _) ok.bl
          rw [digestsOf_prog (by omega)]
          simp only [Option.bind_some]
          have hd:=drop_prog (c:=(⟨c.Room,c.Lease,c.Blobs,c.Entries⟩:Cache)) (l:=(c.Blobs.filter (fun b=>!(heldB b t||mgetD (c.Entries.foldl (wantStep c (putAll [] roots)) (putAll [] roots)) b.Digest false))).map (fun b=>b.Digest)) (by rw [List.length_map]; omega) hbl
          rw [hd]
          simp only [Option.bind_some,del3_prog _ _ hel]
          have hdg:=drop_gone ok.bs (keepB c roots t)
          unfold keepB at hdg
          have e3:∀ x:Entry,mgetD (putAll ([]:List (ByteArray × Bool)) roots) x.Key false=memB roots x.Key:=fun x=>rootsM_get roots x.Key
          simp only [sweptC,goneS,keepB,e3]
          exact congrArg (fun q=>some ((⟨c.Room,c.Lease,q,c.Entries.filter (fun x=>memB roots x.Key)⟩:Cache),(c.Blobs.filter (fun b=>!(heldB b t||mgetD (wantM c roots) b.Digest false))).map (fun b=>b.Digest),(0:Int))) hdg
        · rfl
    · rfl
end Go.Proofs.YtkjilepjblffeaaDoor
