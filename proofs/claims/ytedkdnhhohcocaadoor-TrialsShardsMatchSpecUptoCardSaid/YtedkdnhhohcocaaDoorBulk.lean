/- For an Upto form: what the bound on the bulk gives: every string, slice and map is of few bytes. -/
import Derived.Test.YtedkdnhhohcocaaDoorRows
import Derived.JoinedOf
set_option linter.unusedVariables false
namespace Go.Proofs.YtedkdnhhohcocaaDoor.Bulk
open Go
theorem one_le {H:Type} (d:DataW H):1≤Rows.uptoBulk d:=by
  cases d with
  | lit l=>cases l <;> simp [Rows.uptoBulk]
  | nil=>simp [Rows.uptoBulk]
  | ptr d=>simp [Rows.uptoBulk]
  | slice elems spare=>simp [Rows.uptoBulk]
  | agg parts=>simp [Rows.uptoBulk]
  | iface t d=>simp [Rows.uptoBulk]
  | map entries=>simp [Rows.uptoBulk]
  | held h=>simp [Rows.uptoBulk]
theorem length_le {H:Type} (l:List (DataW H)):l.length≤Rows.uptoBulkAll l:=by
  induction l with
  | nil=>simp [Rows.uptoBulkAll]
  | cons x r ih=>have:=one_le x; simp only [Rows.uptoBulkAll,List.length_cons]; omega
theorem append {H:Type} (l r:List (DataW H)):Rows.uptoBulkAll (l++r)=Rows.uptoBulkAll l+Rows.uptoBulkAll r:=by
  induction l with
  | nil=>simp [Rows.uptoBulkAll]
  | cons x l ih=>simp only [List.cons_append,Rows.uptoBulkAll,ih]; omega
def closedB (P:Program) (M:Nat) (S:List TypeId):Bool:=S.all fun t=>match P.underlying t with
  | some (.slice e)=>S.contains e&&decide (P.bytesOf e≤M)
  | some (.pointer e)=>S.contains e
  | some (.struct fs)=>fs.toList.all fun f=>S.contains f.type
  | some (.array _ e)=>S.contains e
  | some (.map _ _)=>false
  | _=>true
theorem weights_le {H:Type} {P:Program} {M Q:Nat} {S:List TypeId} (hS:closedB P M S=true) (h1:1≤M) :
    ∀ (d:DataW H) (t:TypeId),t∈S→Rows.uptoBulk d*M≤Q→∀ n∈DataW.weights P t d,n≤Q:=by
  have up:∀ {a b:Nat},a≤b→b*M≤Q→a*M≤Q:=fun h h2=>Nat.le_trans (Nat.mul_le_mul_right _ h) h2
  have me:∀ (a:Nat),a≤a*M:=fun a=>by have:=Nat.mul_le_mul_left a h1; omega
  have hc:∀ t∈S,_:=List.all_eq_true.1 hS
  apply DataW.rec
    (motive_1:=fun d=>∀ (t:TypeId),t∈S→Rows.uptoBulk d*M≤Q→∀ n∈DataW.weights P t d,n≤Q)
    (motive_2:=fun l=>(∀ (t:TypeId),t∈S→Rows.uptoBulkAll l*M≤Q→∀ n∈DataW.weightsAll P t l,n≤Q)∧∀ (ts:List TypeId),(∀ t∈ts,t∈S)→Rows.uptoBulkAll l*M≤Q→∀ n∈DataW.weightsEach P ts l,n≤Q)
    (motive_3:=fun l=>True)
    (motive_4:=fun x=>True)
  case lit =>
    intro l t ht hq n hn
    cases l <;> simp [DataW.weights,Rows.uptoBulk] at hn hq
    have:=me n
    rename_i bytes
    have h2:=up (a:=bytes.length) (by omega) hq
    subst hn
    omega
  case nil=>intro t ht hq n hn; simp [DataW.weights] at hn
  case ptr =>
    intro d ih t ht hq n hn
    have h:=hc t ht
    unfold DataW.weights at hn
    split at hn
    · rename_i e he
      rw [he] at h
      exact ih e (by simpa using h) (up (by simp [Rows.uptoBulk]) hq) n hn
    · cases hn
  case slice =>
    intro elems spare ih1 ih2 t ht hq n hn
    have h:=hc t ht
    unfold DataW.weights at hn
    split at hn
    · rename_i e he
      rw [he] at h
      simp at h
      have l1:=length_le elems
      have l2:=length_le spare
      simp only [Rows.uptoBulk] at hq
      rcases List.mem_cons.1 hn with rfl | hn
      · exact Nat.le_trans (Nat.mul_le_mul (by omega) h.2) hq
      · rcases List.mem_append.1 hn with hn | hn
        · exact ih1.1 e h.1 (up (by omega) hq) n hn
        · exact ih2.1 e h.1 (up (by omega) hq) n hn
    · cases hn
  case agg =>
    intro parts ih t ht hq n hn
    have h:=hc t ht
    simp only [Rows.uptoBulk] at hq
    unfold DataW.weights at hn
    split at hn
    · rename_i fs he
      rw [he] at h
      refine ih.2 _ ?_ (up (by omega) hq) n hn
      intro u hu
      obtain ⟨f,hf,rfl⟩:=List.mem_map.1 hu
      simpa using List.all_eq_true.1 h f hf
    · rename_i k e he
      rw [he] at h
      exact ih.1 e (by simpa using h) (up (by omega) hq) n hn
    · cases hn
  case iface=>intro _ d ih t ht hq n hn; simp [DataW.weights] at hn
  case map =>
    intro entries ih t ht hq n hn
    have h:=hc t ht
    unfold DataW.weights at hn
    split at hn
    · rename_i k e he
      rw [he] at h
      cases h
    · cases hn
  case held=>intro h t ht hq n hn; simp [DataW.weights] at hn
  case nil=>exact ⟨fun t _ _ n hn=>by simp [DataW.weightsAll] at hn,fun ts _ _ n hn=>by cases ts <;> simp [DataW.weightsEach] at hn⟩
  case cons =>
    intro d l ihd ihl
    constructor
    · intro t ht hq n hn
      simp only [Rows.uptoBulkAll] at hq
      rw [DataW.weightsAll] at hn
      rcases List.mem_append.1 hn with hn | hn
      · exact ihd t ht (up (by omega) hq) n hn
      · exact ihl.1 t ht (up (by omega) hq) n hn
    · intro ts hts hq n hn
      simp only [Rows.uptoBulkAll] at hq
      cases ts with
      | nil=>simp [DataW.weightsEach] at hn
      | cons t ts =>
        rw [DataW.weightsEach] at hn
        rcases List.mem_append.1 hn with hn | hn
        · exact ihd t (hts t (by simp)) (up (by omega) hq) n hn
        · exact ihl.2 ts (fun u hu=>hts u (by simp [hu])) (up (by omega) hq) n hn
  all_goals intros; trivial
theorem small {H:Type} {P:Program} {M Q:Nat} {S ts:List TypeId} {l:List (DataW H)} (hk:Rows.uptoSmall H l=true) (hS:closedB P M S=true) (h1:1≤M) (hQ:1048576*M≤Q) (hts:∀ t∈ts,t∈S) :
    (DataW.weightsEach P ts l).all (·≤Q)=true:=by
  have hb:Rows.uptoBulkAll l≤1048576:=of_decide_eq_true hk
  have hq:Rows.uptoBulkAll l*M≤Q:=Nat.le_trans (Nat.mul_le_mul_right _ hb) hQ
  rw [List.all_eq_true]
  intro n hn
  refine decide_eq_true ?_
  induction l generalizing ts with
  | nil=>cases ts <;> simp [DataW.weightsEach] at hn
  | cons d l ih =>
    simp only [Rows.uptoBulkAll] at hq hb
    cases ts with
    | nil=>simp [DataW.weightsEach] at hn
    | cons t ts =>
      rw [DataW.weightsEach] at hn
      rcases List.mem_append.1 hn with hn | hn
      · exact weights_le hS h1 d t (hts t (by simp)) (Nat.le_trans (Nat.mul_le_mul_right _ (by omega)) hq) n hn
      · exact ih (decide_eq_true (by omega)) (fun u hu=>hts u (by simp [hu])) (by omega) (Nat.le_trans (Nat.mul_le_mul_right _ (by omega)) hq) hn
end Go.Proofs.YtedkdnhhohcocaaDoor.Bulk
